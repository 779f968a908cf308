-- Printed out of the translation by a program of this session.
import Derived.Test.YtneogampbohfnaaDoorZZ0
namespace Go.Proofs.YtneogampbohfnaaDoor.ZZ
open Go.Proofs.YtneogampbohfnaaDoor.ZB (S39 z39 k39 k39_open k39_openM k39_mk k39_mkM rd_T39 at_T39)
open Go.RowKit Go.Proofs.YtneogampbohfnaaDoorW.PrintWords Go.Proofs.YtneogampbohfnaaDoorW.PrintLast Go.Proofs.YtneogampbohfnaaDoorW.PrintMore
attribute [local go_sem] max2_int min2_int max_two min_two max_three min_three max_four min_four   -- for this text's walks alone
set_option linter.unusedVariables false
set_option linter.unusedSimpArgs false

/-! ### pr_PutExtra: function 52 -/
def pr_PutExtra.l0 : Nat → ByteArray → Int → ByteArray → Bool → List Int → Int → Int → Int → ByteArray → Int → Int → Option (ByteArray × Int)
 | 0, _, _, _, _, _, _, _, _, _, _, _ => none
 | k + 1, x4, x5, x178000, x178001, x178002, x178003, x178004, x178005, x178006, x178007, x178008 => if x5 < (x178002.length : Int) then (if 0 ≤ x5 then ((pr_Bytes.f k (rd x178002 x5) 4).bind fun t182 => (if x4.size + t182.size ≤ 9223372036854775807 then (pr_PutExtra.l0 k (x4 ++ t182) (wrap64 (x5 + 1)) x178000 x178001 x178002 x178003 x178004 x178005 x178006 x178007 x178008) else (none))) else (none)) else (if x178001 = true then ((pr_Bytes.f k x178003 4).bind fun t183 => (if x4.size + t183.size ≤ 9223372036854775807 then ((pr_Bytes.f k x178004 1).bind fun t184 => (if (x4 ++ t183).size + t184.size ≤ 9223372036854775807 then ((pr_Bytes.f k 1 1).bind fun t185 => (if ((x4 ++ t183) ++ t184).size + t185.size ≤ 9223372036854775807 then (some (((x4 ++ t183) ++ t184) ++ t185, 0)) else (none))) else (none))) else (none))) else ((pr_Bytes.f k x178003 4).bind fun t186 => (if x4.size + t186.size ≤ 9223372036854775807 then ((pr_Bytes.f k x178004 1).bind fun t187 => (if (x4 ++ t186).size + t187.size ≤ 9223372036854775807 then ((pr_Bytes.f k 0 1).bind fun t188 => (if ((x4 ++ t186) ++ t187).size + t188.size ≤ 9223372036854775807 then (some (((x4 ++ t186) ++ t187) ++ t188, 0)) else (none))) else (none))) else (none))))
def pr_PutExtra.f (k : Nat) (a0_0 : ByteArray) (a0_1 : Bool) (l0_2 : List Int) (a0_3 : Int) (a0_4 : Int) (a0_5 : Int) (a0_6 : ByteArray) (a0_7 : Int) (a0_8 : Int) : Option (ByteArray × Int) := (pr_headMay.f k a0_0 a0_1 l0_2 a0_3 a0_4 a0_5 a0_6 a0_7 a0_8).bind fun t178 => (if t178 = true then ((pr_Bytes.f k 20592 2).bind fun t179 => ((pr_Bytes.f k 22 2).bind fun t180 => (if t179.size + t180.size ≤ 9223372036854775807 then (pr_PutExtra.l0 k (t179 ++ t180) 0 a0_0 a0_1 l0_2 a0_3 a0_4 a0_5 a0_6 a0_7 a0_8) else (none)))) else (some ((⟨#[]⟩ : ByteArray), 1200)))
theorem pr_PutExtra.mono_l : ∀ k, (∀ y0 y1 y2 y3 y4 y5 y6 y7 y8 y9 y10, LeO (pr_PutExtra.l0 k y0 y1 y2 y3 y4 y5 y6 y7 y8 y9 y10) (pr_PutExtra.l0 (k + 1) y0 y1 y2 y3 y4 y5 y6 y7 y8 y9 y10))
 | 0 => fun _ _ _ _ _ _ _ _ _ _ _ r h => by simp [pr_PutExtra.l0] at h
 | k + 1 => by
  have ih0 := pr_PutExtra.mono_l k
  ·intro y0 y1 y2 y3 y4 y5 y6 y7 y8 y9 y10
   unfold pr_PutExtra.l0
   repeat' first
   | (with_reducible exact ih0 _ _ _ _ _ _ _ _ _ _ _)
   | (with_reducible exact pr_Bytes.mono _ _ _)
   | (with_reducible exact pr_headMay.mono _ _ _ _ _ _ _ _ _ _)
   | (with_reducible exact LeO.refl _)
   | (with_reducible exact LeO.none _)
   | (with_reducible refine LeO.ite ?_ ?_)
   | (with_reducible refine LeO.bind ?_ (fun _ => ?_))
   | exact ih0 _ _ _ _ _ _ _ _ _ _ _
   | exact pr_Bytes.mono _ _ _
   | exact pr_headMay.mono _ _ _ _ _ _ _ _ _ _
   | exact LeO.none _
   | refine LeO.ite ?_ ?_
   | refine LeO.bind ?_ (fun _ => ?_)
theorem pr_PutExtra.mono : ∀ a0 a1 a2 a3 a4 a5 a6 a7 a8 k, LeO (pr_PutExtra.f k a0 a1 a2 a3 a4 a5 a6 a7 a8) (pr_PutExtra.f (k + 1) a0 a1 a2 a3 a4 a5 a6 a7 a8) := by
 intro a0 a1 a2 a3 a4 a5 a6 a7 a8 k
 have ih0 := pr_PutExtra.mono_l k
 unfold pr_PutExtra.f
 repeat' first
   | (with_reducible exact ih0 _ _ _ _ _ _ _ _ _ _ _)
   | (with_reducible exact pr_Bytes.mono _ _ _)
   | (with_reducible exact pr_headMay.mono _ _ _ _ _ _ _ _ _ _)
   | (with_reducible exact LeO.refl _)
   | (with_reducible exact LeO.none _)
   | (with_reducible refine LeO.ite ?_ ?_)
   | (with_reducible refine LeO.bind ?_ (fun _ => ?_))
   | exact ih0 _ _ _ _ _ _ _ _ _ _ _
   | exact pr_Bytes.mono _ _ _
   | exact pr_headMay.mono _ _ _ _ _ _ _ _ _ _
   | exact LeO.none _
   | refine LeO.ite ?_ ?_
   | refine LeO.bind ?_ (fun _ => ?_)
def pr_PutExtra.T11 : Bool × List (List Nat × List Nat) := (true, [([], []), ([], []), ([1], [1]), ([2], [2]), ([0, 3], [0, 3]), ([], []), ([5], [5]), ([6, 3], [6]), ([4, 7], [4, 7]), ([], []), ([9, 7], [9]), ([8, 10], [8, 10]), ([11, 10, 0, 1, 2, 3, 4, 5, 6, 7, 8, 9, 10, 11], [11]), ([12, 0, 1, 2, 3, 4, 5, 6, 7, 8, 9, 10, 11, 12], [])])
def pr_PutExtra.B11 : List Nat := [0, 0, 2, 6, 15, 0, 32, 110, 255, 0, 750, 2047, 4095, 8191]
theorem pr_PutExtra.tab11 : rtab .any (opsOf Tryd.f52 11) = pr_PutExtra.T11 := by kernel_rfl
theorem pr_PutExtra.bits11 : waitsOk pr_PutExtra.T11.2 pr_PutExtra.B11 = true := by kernel_rfl
set_option maxHeartbeats 8000000 in
set_option maxRecDepth 100000 in
theorem pr_PutExtra.calls (k : Nat) (a0_0 : ByteArray) (a0_1 : Bool) (A0_2 : Option Addr) (c0_2 : Nat) (l0_2 : List Int) (a0_3 : Int) (a0_4 : Int) (a0_5 : Int) (a0_6 : ByteArray) (a0_7 : Int) (a0_8 : Int) (r1 : ByteArray) (r2 : Int) (w : World) (hr0_2 : Kd.C (Kd.int .i64) w A0_2 l0_2.length l0_2) (hc0_2 : l0_2.length ≤ c0_2) (h : pr_PutExtra.f k a0_0 a0_1 l0_2 a0_3 a0_4 a0_5 a0_6 a0_7 a0_8 = some (r1, r2)) :
  Calls Tryd.prog 52 #[.agg #[.string a0_0, .bool a0_1, .slice A0_2 l0_2.length c0_2, .int .i64 a0_3, .int .i64 a0_4, .int .i64 a0_5, .string a0_6, .int .i64 a0_7, .int .i64 a0_8]] w fun e w' => e = .returned (.tuple #[.string r1, .int .i64 r2]) ∧ Below w.heap.size w w' := by
 have hu39 := Tryd.underlying39
 have HR0_2 := qas hr0_2
 have HC0_2 := qas hc0_2
 clear hr0_2 hc0_2
 have HB := qas (Below.refl w.heap.size w)
 have H : ((pr_headMay.f k a0_0 a0_1 l0_2 a0_3 a0_4 a0_5 a0_6 a0_7 a0_8).bind fun t178 => (if t178 = true then ((pr_Bytes.f k 20592 2).bind fun t179 => ((pr_Bytes.f k 22 2).bind fun t180 => (if t179.size + t180.size ≤ 9223372036854775807 then (pr_PutExtra.l0 k (t179 ++ t180) 0 a0_0 a0_1 l0_2 a0_3 a0_4 a0_5 a0_6 a0_7 a0_8) else (none)))) else (some ((⟨#[]⟩ : ByteArray), 1200)))) = some (r1, r2) := h
 clear h
 replace H := Option.bind_eq_some_iff.mp H
 obtain ⟨t178, A20, H⟩ := H
 replace H : (if t178 = true then ((pr_Bytes.f k 20592 2).bind fun t179 => ((pr_Bytes.f k 22 2).bind fun t180 => (if t179.size + t180.size ≤ 9223372036854775807 then (pr_PutExtra.l0 k (t179 ++ t180) 0 a0_0 a0_1 l0_2 a0_3 a0_4 a0_5 a0_6 a0_7 a0_8) else (none)))) else (some ((⟨#[]⟩ : ByteArray), 1200))) = some (r1, r2) := H
 have A2 := qas A20
 clear A20
 by_cases c3 : t178 = true
 rotate_left
 ·replace c3 := Bool.eq_false_iff.mpr c3
  subst c3
  have H1 : (some ((⟨#[]⟩ : ByteArray), 1200)) = some (r1, r2) := by rw [if_neg (show ¬ (false = true) by decide)] at H; exact H
  clear H
  have H := H1
  clear H1
  simp only [Option.some.injEq, Prod.mk.injEq] at H
  obtain ⟨rfl, rfl⟩ := H
  go_enter Tryd.func52, Tryd.ntmps52
  go_wp2_with (first | ((with_reducible refine gate_dst (N := 1) rfl ?_); refine box_event ?hg (N := 1) ?hd (cs := #[.string a0_0, .bool a0_1, .slice A0_2 l0_2.length c0_2, .int .i64 a0_3, .int .i64 a0_4, .int .i64 a0_5, .string a0_6, .int .i64 a0_7, .int .i64 a0_8]) (t := 39) ?hr ?_; (case hd => rfl); (case hg => rfl); (case hr => first | (go_simp; done) | (go_simp; rfl)); intro gb177 hg w41 hbox hb; have n0_ := qas (below_step (by repeat (first | (with_reducible first | exact HB.out | apply qbA | apply qbB | apply qbC) | exact HB.out)) hb); have n1_ := qas (hbox); have n2_ := qas ((by rw [hg]; exact (below_size (by repeat (first | (with_reducible first | exact HB.out | apply qbA | apply qbB | apply qbC) | exact HB.out))) : w.heap.size ≤ gb177)); have n3_ := qas ((by rw [hg]; exact (below_size (by repeat (first | (with_reducible first | exact HB.out | apply qbA | apply qbB | apply qbC) | exact HB.out))) : w.heap.size ≤ gb177)); clear HB; have HB := n0_; have BK177 := n1_; have GW177 := n2_; have GE177 := n3_; clear n0_ n1_ n2_ n3_; clear hb hbox hg; have hcz42_0 : w41.cell? ⟨gb177, 0, none⟩ = some (.string a0_0) := (blk_cell BK177.out 0).trans rfl; have hcz42_1 : w41.cell? ⟨gb177, 1, none⟩ = some (.bool a0_1) := (blk_cell BK177.out 1).trans rfl; have hcz42_2 : w41.cell? ⟨gb177, 2, none⟩ = some (.slice A0_2 l0_2.length c0_2) := (blk_cell BK177.out 2).trans rfl; have hcz42_3 : w41.cell? ⟨gb177, 3, none⟩ = some (.int .i64 a0_3) := (blk_cell BK177.out 3).trans rfl; have hcz42_4 : w41.cell? ⟨gb177, 4, none⟩ = some (.int .i64 a0_4) := (blk_cell BK177.out 4).trans rfl; have hcz42_5 : w41.cell? ⟨gb177, 5, none⟩ = some (.int .i64 a0_5) := (blk_cell BK177.out 5).trans rfl; have hcz42_6 : w41.cell? ⟨gb177, 6, none⟩ = some (.string a0_6) := (blk_cell BK177.out 6).trans rfl; have hcz42_7 : w41.cell? ⟨gb177, 7, none⟩ = some (.int .i64 a0_7) := (blk_cell BK177.out 7).trans rfl; have hcz42_8 : w41.cell? ⟨gb177, 8, none⟩ = some (.int .i64 a0_8) := (blk_cell BK177.out 8).trans rfl; have hfz42_0 := blk_frozen BK177.out 0; have hfz42_1 := blk_frozen BK177.out 1; have hfz42_2 := blk_frozen BK177.out 2; have hfz42_3 := blk_frozen BK177.out 3; have hfz42_4 := blk_frozen BK177.out 4; have hfz42_5 := blk_frozen BK177.out 5; have hfz42_6 := blk_frozen BK177.out 6; have hfz42_7 := blk_frozen BK177.out 7; have hfz42_8 := blk_frozen BK177.out 8) | ((with_reducible refine gate_callee (f := 82) rfl ?_); refine goesL_ (some 8) rfl rfl Tryd.func82 (by kernel_rfl) rfl #[.agg #[.string a0_0, .bool a0_1, .slice A0_2 l0_2.length c0_2, .int .i64 a0_3, .int .i64 a0_4, .int .i64 a0_5, .string a0_6, .int .i64 a0_7, .int .i64 a0_8]] rfl (by (try simp only [List.map_toArray, List.map_cons, List.map_nil]); first | done | rfl | (simp only [List.length_drop, List.length_take]; rfl)) ?_; (with_reducible refine (pr_headMay.calls k a0_0 a0_1 _ _ l0_2 a0_3 a0_4 a0_5 a0_6 a0_7 a0_8 false _ ?side1 ?side2 A2.out).mono ?_); (case side1 => repeat (first | exact (Kd.C_below HR0_2.out HB.out) | (with_reducible refine Kd.C_alloc ?_ _) | (with_reducible refine Kd.C_drewN ?_ _) | (with_reducible refine Kd.C_drew ?_))); (case side2 => exact HC0_2.out); rintro e w43 ⟨rfl, hb⟩; refine ⟨_, rfl, ?_⟩; have n0_ := qas (blk_below (g := gb177) (o := .cells #[.string a0_0, .bool a0_1, .slice A0_2 l0_2.length c0_2, .int .i64 a0_3, .int .i64 a0_4, .int .i64 a0_5, .string a0_6, .int .i64 a0_7, .int .i64 a0_8] 39 (0, 0)) (by (with_reducible repeat (first | refine qkA ?_ _ | refine qkB ?_ | refine qkC ?_ _)); exact BK177.out) hb); have n1_ := qas (below_step (by repeat (first | (with_reducible first | exact HB.out | apply qbA | apply qbB | apply qbC | refine below_set ?_ GE177.out) | exact HB.out)) hb); clear BK177; clear HB; have BK177 := n0_; have HB := n1_; clear n0_ n1_; (try clear hb); (try clear hb2); (try clear hk); (try clear hi)))
  go_ret2
  exact ⟨by first | rfl | (simp [errW_none, errW_some] <;> rfl) | (simp [*, errW_none, errW_some] <;> rfl), by repeat (first | (with_reducible first | exact HB.out | apply qbA | apply qbB | apply qbC | refine below_set ?_ GE177.out) | exact HB.out)⟩
 subst c3
 have H1 : ((pr_Bytes.f k 20592 2).bind fun t179 => ((pr_Bytes.f k 22 2).bind fun t180 => (if t179.size + t180.size ≤ 9223372036854775807 then (pr_PutExtra.l0 k (t179 ++ t180) 0 a0_0 a0_1 l0_2 a0_3 a0_4 a0_5 a0_6 a0_7 a0_8) else (none)))) = some (r1, r2) := by rw [if_pos rfl] at H; exact H
 clear H
 have H := H1
 clear H1
 replace H := Option.bind_eq_some_iff.mp H
 obtain ⟨t179, A40, H⟩ := H
 replace H : ((pr_Bytes.f k 22 2).bind fun t180 => (if t179.size + t180.size ≤ 9223372036854775807 then (pr_PutExtra.l0 k (t179 ++ t180) 0 a0_0 a0_1 l0_2 a0_3 a0_4 a0_5 a0_6 a0_7 a0_8) else (none))) = some (r1, r2) := H
 have A4 := qas A40
 clear A40
 replace H := Option.bind_eq_some_iff.mp H
 obtain ⟨t180, A50, H⟩ := H
 replace H : (if t179.size + t180.size ≤ 9223372036854775807 then (pr_PutExtra.l0 k (t179 ++ t180) 0 a0_0 a0_1 l0_2 a0_3 a0_4 a0_5 a0_6 a0_7 a0_8) else (none)) = some (r1, r2) := H
 have A5 := qas A50
 clear A50
 by_cases c6 : t179.size + t180.size ≤ 9223372036854775807
 rotate_left
 ·rw [if_neg c6] at H
  exact absurd H (by simp)
 rw [if_pos c6] at H
 have c6b0 := eq_true c6
 have c6b1 : decide (t179.size + t180.size ≤ 9223372036854775807) = true := decide_eq_true c6
 try have c6b2 : (9223372036854775807 < t179.size + t180.size) = False := eq_false (Nat.not_lt.2 c6)
 have H' := qas H
 clear H
 go_enter Tryd.func52, Tryd.ntmps52
 go_wp2_with (first | ((with_reducible refine gate_dst (N := 1) rfl ?_); refine box_event ?hg (N := 1) ?hd (cs := #[.string a0_0, .bool a0_1, .slice A0_2 l0_2.length c0_2, .int .i64 a0_3, .int .i64 a0_4, .int .i64 a0_5, .string a0_6, .int .i64 a0_7, .int .i64 a0_8]) (t := 39) ?hr ?_; (case hd => rfl); (case hg => rfl); (case hr => first | (go_simp; done) | (go_simp; rfl)); intro gb177 hg w7 hbox hb; have n0_ := qas (below_step (by repeat (first | (with_reducible first | exact HB.out | apply qbA | apply qbB | apply qbC) | exact HB.out)) hb); have n1_ := qas (hbox); have n2_ := qas ((by rw [hg]; exact (below_size (by repeat (first | (with_reducible first | exact HB.out | apply qbA | apply qbB | apply qbC) | exact HB.out))) : w.heap.size ≤ gb177)); have n3_ := qas ((by rw [hg]; exact (below_size (by repeat (first | (with_reducible first | exact HB.out | apply qbA | apply qbB | apply qbC) | exact HB.out))) : w.heap.size ≤ gb177)); clear HB; have HB := n0_; have BK177 := n1_; have GW177 := n2_; have GE177 := n3_; clear n0_ n1_ n2_ n3_; clear hb hbox hg; have hcz8_0 : w7.cell? ⟨gb177, 0, none⟩ = some (.string a0_0) := (blk_cell BK177.out 0).trans rfl; have hcz8_1 : w7.cell? ⟨gb177, 1, none⟩ = some (.bool a0_1) := (blk_cell BK177.out 1).trans rfl; have hcz8_2 : w7.cell? ⟨gb177, 2, none⟩ = some (.slice A0_2 l0_2.length c0_2) := (blk_cell BK177.out 2).trans rfl; have hcz8_3 : w7.cell? ⟨gb177, 3, none⟩ = some (.int .i64 a0_3) := (blk_cell BK177.out 3).trans rfl; have hcz8_4 : w7.cell? ⟨gb177, 4, none⟩ = some (.int .i64 a0_4) := (blk_cell BK177.out 4).trans rfl; have hcz8_5 : w7.cell? ⟨gb177, 5, none⟩ = some (.int .i64 a0_5) := (blk_cell BK177.out 5).trans rfl; have hcz8_6 : w7.cell? ⟨gb177, 6, none⟩ = some (.string a0_6) := (blk_cell BK177.out 6).trans rfl; have hcz8_7 : w7.cell? ⟨gb177, 7, none⟩ = some (.int .i64 a0_7) := (blk_cell BK177.out 7).trans rfl; have hcz8_8 : w7.cell? ⟨gb177, 8, none⟩ = some (.int .i64 a0_8) := (blk_cell BK177.out 8).trans rfl; have hfz8_0 := blk_frozen BK177.out 0; have hfz8_1 := blk_frozen BK177.out 1; have hfz8_2 := blk_frozen BK177.out 2; have hfz8_3 := blk_frozen BK177.out 3; have hfz8_4 := blk_frozen BK177.out 4; have hfz8_5 := blk_frozen BK177.out 5; have hfz8_6 := blk_frozen BK177.out 6; have hfz8_7 := blk_frozen BK177.out 7; have hfz8_8 := blk_frozen BK177.out 8) | ((with_reducible refine gate_callee (f := 82) rfl ?_); refine goesL_ (some 8) rfl rfl Tryd.func82 (by kernel_rfl) rfl #[.agg #[.string a0_0, .bool a0_1, .slice A0_2 l0_2.length c0_2, .int .i64 a0_3, .int .i64 a0_4, .int .i64 a0_5, .string a0_6, .int .i64 a0_7, .int .i64 a0_8]] rfl (by (try simp only [List.map_toArray, List.map_cons, List.map_nil]); first | done | rfl | (simp only [List.length_drop, List.length_take]; rfl)) ?_; (with_reducible refine (pr_headMay.calls k a0_0 a0_1 _ _ l0_2 a0_3 a0_4 a0_5 a0_6 a0_7 a0_8 true _ ?side1 ?side2 A2.out).mono ?_); (case side1 => repeat (first | exact (Kd.C_below HR0_2.out HB.out) | (with_reducible refine Kd.C_alloc ?_ _) | (with_reducible refine Kd.C_drewN ?_ _) | (with_reducible refine Kd.C_drew ?_))); (case side2 => exact HC0_2.out); rintro e w9 ⟨rfl, hb⟩; refine ⟨_, rfl, ?_⟩; have n0_ := qas (blk_below (g := gb177) (o := .cells #[.string a0_0, .bool a0_1, .slice A0_2 l0_2.length c0_2, .int .i64 a0_3, .int .i64 a0_4, .int .i64 a0_5, .string a0_6, .int .i64 a0_7, .int .i64 a0_8] 39 (0, 0)) (by (with_reducible repeat (first | refine qkA ?_ _ | refine qkB ?_ | refine qkC ?_ _)); exact BK177.out) hb); have n1_ := qas (below_step (by repeat (first | (with_reducible first | exact HB.out | apply qbA | apply qbB | apply qbC | refine below_set ?_ GE177.out) | exact HB.out)) hb); clear BK177; clear HB; have BK177 := n0_; have HB := n1_; clear n0_ n1_; (try clear hb); (try clear hb2); (try clear hk); (try clear hi)) | ((with_reducible refine gate_callee (f := 53) rfl ?_); refine goesL_ (some 10) rfl rfl Tryd.func53 (by kernel_rfl) rfl #[.int .i64 20592, .int .i64 2] rfl (by (try simp only [List.map_toArray, List.map_cons, List.map_nil]); first | done | rfl | (simp only [List.length_drop, List.length_take]; rfl)) ?_; (with_reducible refine (pr_Bytes.calls k 20592 2 t179 _ A4.out).mono ?_); rintro e w10 ⟨rfl, hb⟩; refine ⟨_, rfl, ?_⟩; have n0_ := qas (blk_below (g := gb177) (o := .cells #[.string a0_0, .bool a0_1, .slice A0_2 l0_2.length c0_2, .int .i64 a0_3, .int .i64 a0_4, .int .i64 a0_5, .string a0_6, .int .i64 a0_7, .int .i64 a0_8] 39 (0, 0)) (by (with_reducible repeat (first | refine qkA ?_ _ | refine qkB ?_ | refine qkC ?_ _)); exact BK177.out) hb); have n1_ := qas (below_step (by repeat (first | (with_reducible first | exact HB.out | apply qbA | apply qbB | apply qbC | refine below_set ?_ GE177.out) | exact HB.out)) hb); clear BK177; clear HB; have BK177 := n0_; have HB := n1_; clear n0_ n1_; (try clear hb); (try clear hb2); (try clear hk); (try clear hi)) | ((with_reducible refine gate_callee (f := 53) rfl ?_); refine goesL_ (some 11) rfl rfl Tryd.func53 (by kernel_rfl) rfl #[.int .i64 22, .int .i64 2] rfl (by (try simp only [List.map_toArray, List.map_cons, List.map_nil]); first | done | rfl | (simp only [List.length_drop, List.length_take]; rfl)) ?_; (with_reducible refine (pr_Bytes.calls k 22 2 t180 _ A5.out).mono ?_); rintro e w11 ⟨rfl, hb⟩; refine ⟨_, rfl, ?_⟩; have n0_ := qas (blk_below (g := gb177) (o := .cells #[.string a0_0, .bool a0_1, .slice A0_2 l0_2.length c0_2, .int .i64 a0_3, .int .i64 a0_4, .int .i64 a0_5, .string a0_6, .int .i64 a0_7, .int .i64 a0_8] 39 (0, 0)) (by (with_reducible repeat (first | refine qkA ?_ _ | refine qkB ?_ | refine qkC ?_ _)); exact BK177.out) hb); have n1_ := qas (below_step (by repeat (first | (with_reducible first | exact HB.out | apply qbA | apply qbB | apply qbC | refine below_set ?_ GE177.out) | exact HB.out)) hb); clear BK177; clear HB; have BK177 := n0_; have HB := n1_; clear n0_ n1_; (try clear hb); (try clear hb2); (try clear hk); (try clear hi)))
 go_loopg [4, 5] k (fun kq v4 v5 w' => ∃ (x4_1 : ByteArray) (x5_1 : Int), v4 = .string x4_1 ∧ v5 = .int .i64 x5_1 ∧ Aside0 (pr_PutExtra.l0 kq x4_1 x5_1 a0_0 a0_1 l0_2 a0_3 a0_4 a0_5 a0_6 a0_7 a0_8 = some (r1, r2)) ∧ Aside0 (kq ≤ k) ∧ Aside0 (w'.heap[gb177]? = some (.cells #[.string a0_0, .bool a0_1, (.slice A0_2 l0_2.length c0_2), .int .i64 a0_3, .int .i64 a0_4, .int .i64 a0_5, .string a0_6, .int .i64 a0_7, .int .i64 a0_8] 39 (0, 0))) ∧ Aside0 (Below w.heap.size w w'))
 case atStart => exact ⟨(t179 ++ t180), (0), (by first | rfl | (simp; done) | (simp [*]; done)), (by first | rfl | (simp; done) | (simp [*]; done)), H', ⟨Nat.le_refl _⟩, ⟨by (with_reducible repeat (first | refine qkA ?_ _ | refine qkB ?_ | refine qkC ?_ _)); exact BK177.out⟩, ⟨by repeat (first | (with_reducible first | exact HB.out | apply qbA | apply qbB | apply qbC | refine below_set ?_ GE177.out) | exact HB.out)⟩⟩
 case round =>
  clear H'
  try clear p2
  try clear c3
  try clear c5
  try clear c6
  try clear c6b0
  try clear c6b1
  try clear c6b2
  try clear c8
  try clear hcz8_0
  try clear hcz8_1
  try clear hcz8_2
  try clear hcz8_3
  try clear hcz8_4
  try clear hcz8_5
  try clear hcz8_6
  try clear hcz8_7
  try clear hcz8_8
  try clear hfz8_0
  try clear hfz8_1
  try clear hfz8_2
  try clear hfz8_3
  try clear hfz8_4
  try clear hfz8_5
  try clear hfz8_6
  try clear hfz8_7
  try clear hfz8_8
  obtain ⟨x4_1, x5_1, rfl, rfl, HA, HK1, BK177, HB⟩ := hrel
  cases gk with
  | zero => exact absurd HA.out (by simp [pr_PutExtra.l0])
  | succ k1 =>
   have H := HA.out
   clear HA
   simp only [pr_PutExtra.l0] at H
   by_cases c12 : x5_1 < (l0_2.length : Int)
   ·rw [if_pos c12] at H
    have c12b0 : decide (x5_1 < (l0_2.length : Int)) = true := decide_eq_true c12
    clear c12
    by_cases c13 : 0 ≤ x5_1
    rotate_left
    ·rw [if_neg c13] at H
     exact absurd H (by simp)
    rw [if_pos c13] at H
    have c13b0 : decide (0 ≤ x5_1) = true := decide_eq_true c13
    clear c13
    replace H := Option.bind_eq_some_iff.mp H
    obtain ⟨t182, A140, H⟩ := H
    replace H : (if x4_1.size + t182.size ≤ 9223372036854775807 then (pr_PutExtra.l0 k1 (x4_1 ++ t182) (wrap64 (x5_1 + 1)) a0_0 a0_1 l0_2 a0_3 a0_4 a0_5 a0_6 a0_7 a0_8) else (none)) = some (r1, r2) := H
    have A14 := qas A140
    clear A140
    by_cases c15 : x4_1.size + t182.size ≤ 9223372036854775807
    rotate_left
    ·rw [if_neg c15] at H
     exact absurd H (by simp)
    rw [if_pos c15] at H
    have c15b0 := eq_true c15
    have c15b1 : decide (x4_1.size + t182.size ≤ 9223372036854775807) = true := decide_eq_true c15
    try have c15b2 : (9223372036854775807 < x4_1.size + t182.size) = False := eq_false (Nat.not_lt.2 c15)
    have H' := qas H
    clear H
    have hcz16_0 : wr.cell? ⟨gb177, 0, none⟩ = some (.string a0_0) := (blk_cell BK177.out 0).trans rfl
    have hcz16_1 : wr.cell? ⟨gb177, 1, none⟩ = some (.bool a0_1) := (blk_cell BK177.out 1).trans rfl
    have hcz16_2 : wr.cell? ⟨gb177, 2, none⟩ = some (.slice A0_2 l0_2.length c0_2) := (blk_cell BK177.out 2).trans rfl
    have hcz16_3 : wr.cell? ⟨gb177, 3, none⟩ = some (.int .i64 a0_3) := (blk_cell BK177.out 3).trans rfl
    have hcz16_4 : wr.cell? ⟨gb177, 4, none⟩ = some (.int .i64 a0_4) := (blk_cell BK177.out 4).trans rfl
    have hcz16_5 : wr.cell? ⟨gb177, 5, none⟩ = some (.int .i64 a0_5) := (blk_cell BK177.out 5).trans rfl
    have hcz16_6 : wr.cell? ⟨gb177, 6, none⟩ = some (.string a0_6) := (blk_cell BK177.out 6).trans rfl
    have hcz16_7 : wr.cell? ⟨gb177, 7, none⟩ = some (.int .i64 a0_7) := (blk_cell BK177.out 7).trans rfl
    have hcz16_8 : wr.cell? ⟨gb177, 8, none⟩ = some (.int .i64 a0_8) := (blk_cell BK177.out 8).trans rfl
    have hfz16_0 := blk_frozen BK177.out 0
    have hfz16_1 := blk_frozen BK177.out 1
    have hfz16_2 := blk_frozen BK177.out 2
    have hfz16_3 := blk_frozen BK177.out 3
    have hfz16_4 := blk_frozen BK177.out 4
    have hfz16_5 := blk_frozen BK177.out 5
    have hfz16_6 := blk_frozen BK177.out 6
    have hfz16_7 := blk_frozen BK177.out 7
    have hfz16_8 := blk_frozen BK177.out 8
    have p181 : 0 ≤ (x5_1 : Int) := qde (by first | (with_reducible assumption) | assumption)
    have q181 : x5_1 < (l0_2.length : Int) := qde (by first | (with_reducible assumption) | assumption)
    obtain ⟨ad181, e181, hx181_0⟩ := Kd.at_int HR0_2.out x5_1 p181 q181
    cases e181
    replace hx181_0 := (HB.out.cell (qbl w _ hx181_0)).trans hx181_0
    replace p181 := eq_true p181
    replace q181 := eq_true q181
    go_wp2_with (first | ((with_reducible refine gate_callee (f := 53) rfl ?_); refine goesL_ (some 26) rfl rfl Tryd.func53 (by kernel_rfl) rfl #[.int .i64 (rd l0_2 x5_1), .int .i64 4] rfl (by (try simp only [List.map_toArray, List.map_cons, List.map_nil]); first | done | rfl | (simp only [List.length_drop, List.length_take]; rfl)) ?_; (with_reducible refine (pr_Bytes.calls k1 (rd l0_2 x5_1) 4 t182 _ A14.out).mono ?_); rintro e w17 ⟨rfl, hb⟩; refine ⟨_, rfl, ?_⟩; have n0_ := qas (blk_below (g := gb177) (o := .cells #[.string a0_0, .bool a0_1, .slice (some ad181) l0_2.length c0_2, .int .i64 a0_3, .int .i64 a0_4, .int .i64 a0_5, .string a0_6, .int .i64 a0_7, .int .i64 a0_8] 39 (0, 0)) (by (with_reducible repeat (first | refine qkA ?_ _ | refine qkB ?_ | refine qkC ?_ _)); exact BK177.out) hb); have n1_ := qas (below_step (by repeat (first | (with_reducible first | exact HB.out | apply qbA | apply qbB | apply qbC | refine below_set ?_ GE177.out) | exact HB.out)) hb); clear BK177; clear HB; have BK177 := n0_; have HB := n1_; clear n0_ n1_; (try clear hb); (try clear hb2); (try clear hk); (try clear hi)))
    go_roundg k1
    case measure => have := HK1.out; omega
    case rel => exact ⟨(x4_1 ++ t182), (wrap64 (x5_1 + 1)), (by first | rfl | (simp; done) | (simp [*]; done)), (by first | rfl | (simp; done) | (simp [*]; done)), H', ⟨by have := HK1.out; omega⟩, ⟨by (with_reducible repeat (first | refine qkA ?_ _ | refine qkB ?_ | refine qkC ?_ _)); exact BK177.out⟩, ⟨by repeat (first | (with_reducible first | exact HB.out | apply qbA | apply qbB | apply qbC | refine below_set ?_ GE177.out) | exact HB.out)⟩⟩
   rw [if_neg c12] at H
   have c12b0 : decide (x5_1 < (l0_2.length : Int)) = false := decide_eq_false c12
   clear c12
   by_cases c18 : a0_1 = true
   ·subst c18
    have H1 : ((pr_Bytes.f k1 a0_3 4).bind fun t183 => (if x4_1.size + t183.size ≤ 9223372036854775807 then ((pr_Bytes.f k1 a0_4 1).bind fun t184 => (if (x4_1 ++ t183).size + t184.size ≤ 9223372036854775807 then ((pr_Bytes.f k1 1 1).bind fun t185 => (if ((x4_1 ++ t183) ++ t184).size + t185.size ≤ 9223372036854775807 then (some (((x4_1 ++ t183) ++ t184) ++ t185, 0)) else (none))) else (none))) else (none))) = some (r1, r2) := by rw [if_pos rfl] at H; exact H
    clear H
    have H := H1
    clear H1
    replace H := Option.bind_eq_some_iff.mp H
    obtain ⟨t183, A190, H⟩ := H
    replace H : (if x4_1.size + t183.size ≤ 9223372036854775807 then ((pr_Bytes.f k1 a0_4 1).bind fun t184 => (if (x4_1 ++ t183).size + t184.size ≤ 9223372036854775807 then ((pr_Bytes.f k1 1 1).bind fun t185 => (if ((x4_1 ++ t183) ++ t184).size + t185.size ≤ 9223372036854775807 then (some (((x4_1 ++ t183) ++ t184) ++ t185, 0)) else (none))) else (none))) else (none)) = some (r1, r2) := H
    have A19 := qas A190
    clear A190
    by_cases c20 : x4_1.size + t183.size ≤ 9223372036854775807
    rotate_left
    ·rw [if_neg c20] at H
     exact absurd H (by simp)
    rw [if_pos c20] at H
    have c20b0 := eq_true c20
    have c20b1 : decide (x4_1.size + t183.size ≤ 9223372036854775807) = true := decide_eq_true c20
    try have c20b2 : (9223372036854775807 < x4_1.size + t183.size) = False := eq_false (Nat.not_lt.2 c20)
    replace H := Option.bind_eq_some_iff.mp H
    obtain ⟨t184, A210, H⟩ := H
    replace H : (if (x4_1 ++ t183).size + t184.size ≤ 9223372036854775807 then ((pr_Bytes.f k1 1 1).bind fun t185 => (if ((x4_1 ++ t183) ++ t184).size + t185.size ≤ 9223372036854775807 then (some (((x4_1 ++ t183) ++ t184) ++ t185, 0)) else (none))) else (none)) = some (r1, r2) := H
    have A21 := qas A210
    clear A210
    by_cases c22 : (x4_1 ++ t183).size + t184.size ≤ 9223372036854775807
    rotate_left
    ·rw [if_neg c22] at H
     exact absurd H (by simp)
    rw [if_pos c22] at H
    have c22b0 := eq_true c22
    have c22b1 : decide ((x4_1 ++ t183).size + t184.size ≤ 9223372036854775807) = true := decide_eq_true c22
    try have c22b2 : (9223372036854775807 < (x4_1 ++ t183).size + t184.size) = False := eq_false (Nat.not_lt.2 c22)
    have c22b9 : (9223372036854775807 < (x4_1 ++ t183).size + t184.size) = False := eq_false (Nat.not_lt.2 c22)
    (first | (simp only [ByteArray.size_append] at c22b9) | (try simp only [ByteArray.size_append] at c22b9))
    replace H := Option.bind_eq_some_iff.mp H
    obtain ⟨t185, A230, H⟩ := H
    replace H : (if ((x4_1 ++ t183) ++ t184).size + t185.size ≤ 9223372036854775807 then (some (((x4_1 ++ t183) ++ t184) ++ t185, 0)) else (none)) = some (r1, r2) := H
    have A23 := qas A230
    clear A230
    by_cases c24 : ((x4_1 ++ t183) ++ t184).size + t185.size ≤ 9223372036854775807
    rotate_left
    ·rw [if_neg c24] at H
     exact absurd H (by simp)
    rw [if_pos c24] at H
    have c24b0 := eq_true c24
    have c24b1 : decide (((x4_1 ++ t183) ++ t184).size + t185.size ≤ 9223372036854775807) = true := decide_eq_true c24
    try have c24b2 : (9223372036854775807 < ((x4_1 ++ t183) ++ t184).size + t185.size) = False := eq_false (Nat.not_lt.2 c24)
    have c24b9 : (9223372036854775807 < ((x4_1 ++ t183) ++ t184).size + t185.size) = False := eq_false (Nat.not_lt.2 c24)
    (first | (simp only [ByteArray.size_append] at c24b9) | (try simp only [ByteArray.size_append] at c24b9))
    simp only [Option.some.injEq, Prod.mk.injEq] at H
    obtain ⟨rfl, rfl⟩ := H
    have hcz25_0 : wr.cell? ⟨gb177, 0, none⟩ = some (.string a0_0) := (blk_cell BK177.out 0).trans rfl
    have hcz25_1 : wr.cell? ⟨gb177, 1, none⟩ = some (.bool true) := (blk_cell BK177.out 1).trans rfl
    have hcz25_2 : wr.cell? ⟨gb177, 2, none⟩ = some (.slice A0_2 l0_2.length c0_2) := (blk_cell BK177.out 2).trans rfl
    have hcz25_3 : wr.cell? ⟨gb177, 3, none⟩ = some (.int .i64 a0_3) := (blk_cell BK177.out 3).trans rfl
    have hcz25_4 : wr.cell? ⟨gb177, 4, none⟩ = some (.int .i64 a0_4) := (blk_cell BK177.out 4).trans rfl
    have hcz25_5 : wr.cell? ⟨gb177, 5, none⟩ = some (.int .i64 a0_5) := (blk_cell BK177.out 5).trans rfl
    have hcz25_6 : wr.cell? ⟨gb177, 6, none⟩ = some (.string a0_6) := (blk_cell BK177.out 6).trans rfl
    have hcz25_7 : wr.cell? ⟨gb177, 7, none⟩ = some (.int .i64 a0_7) := (blk_cell BK177.out 7).trans rfl
    have hcz25_8 : wr.cell? ⟨gb177, 8, none⟩ = some (.int .i64 a0_8) := (blk_cell BK177.out 8).trans rfl
    have hfz25_0 := blk_frozen BK177.out 0
    have hfz25_1 := blk_frozen BK177.out 1
    have hfz25_2 := blk_frozen BK177.out 2
    have hfz25_3 := blk_frozen BK177.out 3
    have hfz25_4 := blk_frozen BK177.out 4
    have hfz25_5 := blk_frozen BK177.out 5
    have hfz25_6 := blk_frozen BK177.out 6
    have hfz25_7 := blk_frozen BK177.out 7
    have hfz25_8 := blk_frozen BK177.out 8
    try go_wp2
    have n0_ := qas (qkB BK177.out)
    have n1_ := qas (qbC HB.out)
    clear BK177
    clear HB
    have BK177 := n0_
    have HB := n1_
    clear n0_ n1_
    refine start_ (n := 14) (S := fun w' => w'.cell? ⟨gb177, 0, none⟩ = some (.string a0_0) ∧ w'.cell? ⟨gb177, 1, none⟩ = some (.bool true) ∧ w'.cell? ⟨gb177, 2, none⟩ = some (.slice A0_2 l0_2.length c0_2) ∧ w'.cell? ⟨gb177, 3, none⟩ = some (.int .i64 a0_3) ∧ w'.cell? ⟨gb177, 4, none⟩ = some (.int .i64 a0_4) ∧ w'.cell? ⟨gb177, 5, none⟩ = some (.int .i64 a0_5) ∧ w'.cell? ⟨gb177, 6, none⟩ = some (.string a0_6) ∧ w'.cell? ⟨gb177, 7, none⟩ = some (.int .i64 a0_7) ∧ w'.cell? ⟨gb177, 8, none⟩ = some (.int .i64 a0_8)) (ds := []) #[qf, qf, qf, qf, qf, qf, qf, qf, qf, qf, qf, qf, qf, qf] (by kernel_rfl) rfl rfl ⟨(blk_cell BK177.out 0).trans rfl, (blk_cell BK177.out 1).trans rfl, (blk_cell BK177.out 2).trans rfl, (blk_cell BK177.out 3).trans rfl, (blk_cell BK177.out 4).trans rfl, (blk_cell BK177.out 5).trans rfl, (blk_cell BK177.out 6).trans rfl, (blk_cell BK177.out 7).trans rfl, (blk_cell BK177.out 8).trans rfl⟩ (fun hHeld => ?_); refine with_tabW pr_PutExtra.tab11 pr_PutExtra.bits11 (fun HT_ HW_ => ?_)
    generalize wr.drew = w26 at BK177 HB hHeld ⊢
    refine pure_ (i := 0) (N := some 30) (v := ?_) (a' := ?_) #[qt, qf, qf, qf, qf, qf, qf, qf, qf, qf, qf, qf, qf, qf] rfl rfl (any_of HT_.out (by kernel_rfl)) (fun _ _ _ h => h) (Or.inl ⟨by rfl, ?_⟩) ?_ ?_
    rotate_left
    ·intro w'
     go_simp
     with_reducible rfl
    rotate_left
    ·simp only [Act.put, qsA, qsB, qsC, i64_w, i32_w, qsD, qsE]
     rfl
    refine pure_ (i := 1) (N := some 31) (v := ?_) (a' := ?_) #[qt, qt, qf, qf, qf, qf, qf, qf, qf, qf, qf, qf, qf, qf] rfl rfl (any_of HT_.out (by kernel_rfl)) (fun _ _ _ h => h) (Or.inl ⟨by rfl, ?_⟩) ?_ ?_
    rotate_left
    ·intro w'
     go_simp
     with_reducible rfl
    rotate_left
    ·simp only [Act.put, qsA, qsB, qsC, i64_w, i32_w, qsD, qsE]
     rfl
    refine pure_ (i := 5) (N := some 35) (v := ?_) (a' := ?_) #[qt, qt, qf, qf, qf, qt, qf, qf, qf, qf, qf, qf, qf, qf] rfl rfl (any_of HT_.out (by kernel_rfl)) (fun _ _ _ h => h) (Or.inl ⟨by rfl, ?_⟩) ?_ ?_
    rotate_left
    ·intro w'
     go_simp
     with_reducible rfl
    rotate_left
    ·simp only [Act.put, qsA, qsB, qsC, i64_w, i32_w, qsD, qsE]
     rfl
    refine pure_ (i := 9) (N := some 39) (v := ?_) (a' := ?_) #[qt, qt, qf, qf, qf, qt, qf, qf, qf, qt, qf, qf, qf, qf] rfl rfl (any_of HT_.out (by kernel_rfl)) (fun _ _ _ h => h) (Or.inl ⟨by rfl, ?_⟩) ?_ ?_
    rotate_left
    ·intro w'
     go_simp
     with_reducible rfl
    rotate_left
    ·simp only [Act.put, qsA, qsB, qsC, i64_w, i32_w, qsD, qsE]
     rfl
    refine take_ (i := 2) (N := some 32) (v := ?_) (a' := ?_) #[qt, qt, qt, qf, qf, qt, qf, qf, qf, qt, qf, qf, qf, qf] rfl rfl (take_ofW HT_.out HW_.out (by kernel_rfl)) (fun _ _ _ h => h) (Or.inl ⟨by rfl, ?_⟩) hHeld ?_ ?_
    rotate_left
    ·rintro w' ⟨s0, s1, s2, s3, s4, s5, s6, s7, s8⟩
     go_simp
     with_reducible rfl
    rotate_left
    ·simp only [Act.put, qsA, qsB, qsC, i64_w, i32_w, qsD, qsE]
     rfl
    refine take_ (i := 6) (N := some 36) (v := ?_) (a' := ?_) #[qt, qt, qt, qf, qf, qt, qt, qf, qf, qt, qf, qf, qf, qf] rfl rfl (take_ofW HT_.out HW_.out (by kernel_rfl)) (fun _ _ _ h => h) (Or.inl ⟨by rfl, ?_⟩) hHeld ?_ ?_
    rotate_left
    ·rintro w' ⟨s0, s1, s2, s3, s4, s5, s6, s7, s8⟩
     go_simp
     with_reducible rfl
    rotate_left
    ·simp only [Act.put, qsA, qsB, qsC, i64_w, i32_w, qsD, qsE]
     rfl
    refine one_ (i := 3) (N := some 33) #[qt, qt, qt, qt, qf, qt, qt, qf, qf, qt, qf, qf, qf, qf] rfl rfl (one_of HT_.out (by kernel_rfl)) (by decide) (fun K hK => ?_)
    refine goes_ Tryd.func53 (by kernel_rfl) rfl #[.int .i64 a0_3, .int .i64 4] (by rfl) rfl rfl (by (try simp only [List.map_toArray, List.map_cons, List.map_nil]); first | done | rfl | (simp only [List.length_drop, List.length_take]; rfl)) ?_
    with_reducible refine (pr_Bytes.calls k1 a0_3 4 t183 _ A19.out).mono ?_
    rintro e w27 ⟨rfl, hb⟩
    refine ⟨_, rfl, ?_⟩
    have n0_ := qas (blk_below (g := gb177) (o := .cells #[.string a0_0, .bool true, .slice A0_2 l0_2.length c0_2, .int .i64 a0_3, .int .i64 a0_4, .int .i64 a0_5, .string a0_6, .int .i64 a0_7, .int .i64 a0_8] 39 (0, 0)) (by (with_reducible repeat (first | refine qkA ?_ _ | refine qkB ?_ | refine qkC ?_ _)); exact BK177.out) hb)
    have n1_ := qas (below_step (by repeat (first | (with_reducible first | exact HB.out | apply qbA | apply qbB | apply qbC | refine below_set ?_ GE177.out) | exact HB.out)) hb)
    clear BK177
    clear HB
    have BK177 := n0_
    have HB := n1_
    clear n0_ n1_
    (try clear hb)
    (try clear hb2)
    (try clear hk)
    (try clear hi)
    refine hK.out _ _ ⟨(blk_cell BK177.out 0).trans rfl, (blk_cell BK177.out 1).trans rfl, (blk_cell BK177.out 2).trans rfl, (blk_cell BK177.out 3).trans rfl, (blk_cell BK177.out 4).trans rfl, (blk_cell BK177.out 5).trans rfl, (blk_cell BK177.out 6).trans rfl, (blk_cell BK177.out 7).trans rfl, (blk_cell BK177.out 8).trans rfl⟩ (fun hHeld => ?_)
    clear hK K
    refine norm_ (a' := ?_) ?_ ?_
    rotate_left
    ·show Act.put _ (some 33) _ = _
     simp only [Act.put, qsA, qsB, qsC, i64_w, i32_w, qsD, qsE]
     rfl
    refine pure_ (i := 4) (N := some 34) (v := ?_) (a' := ?_) #[qt, qt, qt, qt, qt, qt, qt, qf, qf, qt, qf, qf, qf, qf] rfl rfl (any_of HT_.out (by kernel_rfl)) (fun _ _ _ h => h) (Or.inl ⟨by rfl, ?_⟩) ?_ ?_
    rotate_left
    ·intro w'
     go_simp
     with_reducible rfl
    rotate_left
    ·simp only [Act.put, qsA, qsB, qsC, i64_w, i32_w, qsD, qsE]
     rfl
    refine one_ (i := 7) (N := some 37) #[qt, qt, qt, qt, qt, qt, qt, qt, qf, qt, qf, qf, qf, qf] rfl rfl (one_of HT_.out (by kernel_rfl)) (by decide) (fun K hK => ?_)
    refine goes_ Tryd.func53 (by kernel_rfl) rfl #[.int .i64 a0_4, .int .i64 1] (by rfl) rfl rfl (by (try simp only [List.map_toArray, List.map_cons, List.map_nil]); first | done | rfl | (simp only [List.length_drop, List.length_take]; rfl)) ?_
    with_reducible refine (pr_Bytes.calls k1 a0_4 1 t184 _ A21.out).mono ?_
    rintro e w28 ⟨rfl, hb⟩
    refine ⟨_, rfl, ?_⟩
    have n0_ := qas (blk_below (g := gb177) (o := .cells #[.string a0_0, .bool true, .slice A0_2 l0_2.length c0_2, .int .i64 a0_3, .int .i64 a0_4, .int .i64 a0_5, .string a0_6, .int .i64 a0_7, .int .i64 a0_8] 39 (0, 0)) (by (with_reducible repeat (first | refine qkA ?_ _ | refine qkB ?_ | refine qkC ?_ _)); exact BK177.out) hb)
    have n1_ := qas (below_step (by repeat (first | (with_reducible first | exact HB.out | apply qbA | apply qbB | apply qbC | refine below_set ?_ GE177.out) | exact HB.out)) hb)
    clear BK177
    clear HB
    have BK177 := n0_
    have HB := n1_
    clear n0_ n1_
    (try clear hb)
    (try clear hb2)
    (try clear hk)
    (try clear hi)
    refine hK.out _ _ ⟨(blk_cell BK177.out 0).trans rfl, (blk_cell BK177.out 1).trans rfl, (blk_cell BK177.out 2).trans rfl, (blk_cell BK177.out 3).trans rfl, (blk_cell BK177.out 4).trans rfl, (blk_cell BK177.out 5).trans rfl, (blk_cell BK177.out 6).trans rfl, (blk_cell BK177.out 7).trans rfl, (blk_cell BK177.out 8).trans rfl⟩ (fun hHeld => ?_)
    clear hK K
    refine norm_ (a' := ?_) ?_ ?_
    rotate_left
    ·show Act.put _ (some 37) _ = _
     simp only [Act.put, qsA, qsB, qsC, i64_w, i32_w, qsD, qsE]
     rfl
    refine pure_ (i := 8) (N := some 38) (v := ?_) (a' := ?_) #[qt, qt, qt, qt, qt, qt, qt, qt, qt, qt, qf, qf, qf, qf] rfl rfl (any_of HT_.out (by kernel_rfl)) (fun _ _ _ h => h) (Or.inl ⟨by rfl, ?_⟩) ?_ ?_
    rotate_left
    ·intro w'
     go_simp
     with_reducible rfl
    rotate_left
    ·simp only [Act.put, qsA, qsB, qsC, i64_w, i32_w, qsD, qsE]
     rfl
    refine one_ (i := 10) (N := some 40) #[qt, qt, qt, qt, qt, qt, qt, qt, qt, qt, qt, qf, qf, qf] rfl rfl (one_of HT_.out (by kernel_rfl)) (by decide) (fun K hK => ?_)
    refine goes_ Tryd.func53 (by kernel_rfl) rfl #[.int .i64 1, .int .i64 1] (by rfl) rfl rfl (by (try simp only [List.map_toArray, List.map_cons, List.map_nil]); first | done | rfl | (simp only [List.length_drop, List.length_take]; rfl)) ?_
    with_reducible refine (pr_Bytes.calls k1 1 1 t185 _ A23.out).mono ?_
    rintro e w29 ⟨rfl, hb⟩
    refine ⟨_, rfl, ?_⟩
    have n0_ := qas (blk_below (g := gb177) (o := .cells #[.string a0_0, .bool true, .slice A0_2 l0_2.length c0_2, .int .i64 a0_3, .int .i64 a0_4, .int .i64 a0_5, .string a0_6, .int .i64 a0_7, .int .i64 a0_8] 39 (0, 0)) (by (with_reducible repeat (first | refine qkA ?_ _ | refine qkB ?_ | refine qkC ?_ _)); exact BK177.out) hb)
    have n1_ := qas (below_step (by repeat (first | (with_reducible first | exact HB.out | apply qbA | apply qbB | apply qbC | refine below_set ?_ GE177.out) | exact HB.out)) hb)
    clear BK177
    clear HB
    have BK177 := n0_
    have HB := n1_
    clear n0_ n1_
    (try clear hb)
    (try clear hb2)
    (try clear hk)
    (try clear hi)
    refine hK.out _ _ ⟨(blk_cell BK177.out 0).trans rfl, (blk_cell BK177.out 1).trans rfl, (blk_cell BK177.out 2).trans rfl, (blk_cell BK177.out 3).trans rfl, (blk_cell BK177.out 4).trans rfl, (blk_cell BK177.out 5).trans rfl, (blk_cell BK177.out 6).trans rfl, (blk_cell BK177.out 7).trans rfl, (blk_cell BK177.out 8).trans rfl⟩ (fun hHeld => ?_)
    clear hK K
    refine norm_ (a' := ?_) ?_ ?_
    rotate_left
    ·show Act.put _ (some 40) _ = _
     simp only [Act.put, qsA, qsB, qsC, i64_w, i32_w, qsD, qsE]
     rfl
    refine pure_ (i := 11) (N := some 41) (v := ?_) (a' := ?_) #[qt, qt, qt, qt, qt, qt, qt, qt, qt, qt, qt, qt, qf, qf] rfl rfl (any_of HT_.out (by kernel_rfl)) (fun _ _ _ h => h) (Or.inl ⟨by rfl, ?_⟩) ?_ ?_
    rotate_left
    ·intro w'
     go_simp
     with_reducible rfl
    rotate_left
    ·simp only [Act.put, qsA, qsB, qsC, i64_w, i32_w, qsD, qsE]
     rfl
    refine pure_ (i := 12) (N := some 2) (v := ?_) (a' := ?_) #[qt, qt, qt, qt, qt, qt, qt, qt, qt, qt, qt, qt, qt, qf] rfl rfl (any_of HT_.out (by kernel_rfl)) (fun _ _ _ h => h) (Or.inl ⟨by rfl, ?_⟩) ?_ ?_
    rotate_left
    ·intro w'
     go_simp
     with_reducible rfl
    rotate_left
    ·simp only [Act.put, qsA, qsB, qsC, i64_w, i32_w, qsD, qsE]
     rfl
    refine pure_ (i := 13) (N := some 3) (v := ?_) (a' := ?_) #[qt, qt, qt, qt, qt, qt, qt, qt, qt, qt, qt, qt, qt, qt] rfl rfl (any_of HT_.out (by kernel_rfl)) (fun _ _ _ h => h) (Or.inl ⟨by rfl, ?_⟩) ?_ ?_
    rotate_left
    ·intro w'
     go_simp
     with_reducible rfl
    rotate_left
    ·simp only [Act.put, qsA, qsB, qsC, i64_w, i32_w, qsD, qsE]
     rfl
    refine done_ (done_of HT_.out (by kernel_rfl)) ?_
    try go_wp2
    go_ret2
    exact ⟨by first | rfl | (simp [errW_none, errW_some] <;> rfl) | (simp [*, errW_none, errW_some] <;> rfl), by repeat (first | (with_reducible first | exact HB.out | apply qbA | apply qbB | apply qbC | refine below_set ?_ GE177.out) | exact HB.out)⟩
   replace c18 := Bool.eq_false_iff.mpr c18
   subst c18
   have H1 : ((pr_Bytes.f k1 a0_3 4).bind fun t186 => (if x4_1.size + t186.size ≤ 9223372036854775807 then ((pr_Bytes.f k1 a0_4 1).bind fun t187 => (if (x4_1 ++ t186).size + t187.size ≤ 9223372036854775807 then ((pr_Bytes.f k1 0 1).bind fun t188 => (if ((x4_1 ++ t186) ++ t187).size + t188.size ≤ 9223372036854775807 then (some (((x4_1 ++ t186) ++ t187) ++ t188, 0)) else (none))) else (none))) else (none))) = some (r1, r2) := by rw [if_neg (show ¬ (false = true) by decide)] at H; exact H
   clear H
   have H := H1
   clear H1
   replace H := Option.bind_eq_some_iff.mp H
   obtain ⟨t186, A300, H⟩ := H
   replace H : (if x4_1.size + t186.size ≤ 9223372036854775807 then ((pr_Bytes.f k1 a0_4 1).bind fun t187 => (if (x4_1 ++ t186).size + t187.size ≤ 9223372036854775807 then ((pr_Bytes.f k1 0 1).bind fun t188 => (if ((x4_1 ++ t186) ++ t187).size + t188.size ≤ 9223372036854775807 then (some (((x4_1 ++ t186) ++ t187) ++ t188, 0)) else (none))) else (none))) else (none)) = some (r1, r2) := H
   have A30 := qas A300
   clear A300
   by_cases c31 : x4_1.size + t186.size ≤ 9223372036854775807
   rotate_left
   ·rw [if_neg c31] at H
    exact absurd H (by simp)
   rw [if_pos c31] at H
   have c31b0 := eq_true c31
   have c31b1 : decide (x4_1.size + t186.size ≤ 9223372036854775807) = true := decide_eq_true c31
   try have c31b2 : (9223372036854775807 < x4_1.size + t186.size) = False := eq_false (Nat.not_lt.2 c31)
   replace H := Option.bind_eq_some_iff.mp H
   obtain ⟨t187, A320, H⟩ := H
   replace H : (if (x4_1 ++ t186).size + t187.size ≤ 9223372036854775807 then ((pr_Bytes.f k1 0 1).bind fun t188 => (if ((x4_1 ++ t186) ++ t187).size + t188.size ≤ 9223372036854775807 then (some (((x4_1 ++ t186) ++ t187) ++ t188, 0)) else (none))) else (none)) = some (r1, r2) := H
   have A32 := qas A320
   clear A320
   by_cases c33 : (x4_1 ++ t186).size + t187.size ≤ 9223372036854775807
   rotate_left
   ·rw [if_neg c33] at H
    exact absurd H (by simp)
   rw [if_pos c33] at H
   have c33b0 := eq_true c33
   have c33b1 : decide ((x4_1 ++ t186).size + t187.size ≤ 9223372036854775807) = true := decide_eq_true c33
   try have c33b2 : (9223372036854775807 < (x4_1 ++ t186).size + t187.size) = False := eq_false (Nat.not_lt.2 c33)
   have c33b9 : (9223372036854775807 < (x4_1 ++ t186).size + t187.size) = False := eq_false (Nat.not_lt.2 c33)
   (first | (simp only [ByteArray.size_append] at c33b9) | (try simp only [ByteArray.size_append] at c33b9))
   replace H := Option.bind_eq_some_iff.mp H
   obtain ⟨t188, A340, H⟩ := H
   replace H : (if ((x4_1 ++ t186) ++ t187).size + t188.size ≤ 9223372036854775807 then (some (((x4_1 ++ t186) ++ t187) ++ t188, 0)) else (none)) = some (r1, r2) := H
   have A34 := qas A340
   clear A340
   by_cases c35 : ((x4_1 ++ t186) ++ t187).size + t188.size ≤ 9223372036854775807
   rotate_left
   ·rw [if_neg c35] at H
    exact absurd H (by simp)
   rw [if_pos c35] at H
   have c35b0 := eq_true c35
   have c35b1 : decide (((x4_1 ++ t186) ++ t187).size + t188.size ≤ 9223372036854775807) = true := decide_eq_true c35
   try have c35b2 : (9223372036854775807 < ((x4_1 ++ t186) ++ t187).size + t188.size) = False := eq_false (Nat.not_lt.2 c35)
   have c35b9 : (9223372036854775807 < ((x4_1 ++ t186) ++ t187).size + t188.size) = False := eq_false (Nat.not_lt.2 c35)
   (first | (simp only [ByteArray.size_append] at c35b9) | (try simp only [ByteArray.size_append] at c35b9))
   simp only [Option.some.injEq, Prod.mk.injEq] at H
   obtain ⟨rfl, rfl⟩ := H
   have hcz36_0 : wr.cell? ⟨gb177, 0, none⟩ = some (.string a0_0) := (blk_cell BK177.out 0).trans rfl
   have hcz36_1 : wr.cell? ⟨gb177, 1, none⟩ = some (.bool false) := (blk_cell BK177.out 1).trans rfl
   have hcz36_2 : wr.cell? ⟨gb177, 2, none⟩ = some (.slice A0_2 l0_2.length c0_2) := (blk_cell BK177.out 2).trans rfl
   have hcz36_3 : wr.cell? ⟨gb177, 3, none⟩ = some (.int .i64 a0_3) := (blk_cell BK177.out 3).trans rfl
   have hcz36_4 : wr.cell? ⟨gb177, 4, none⟩ = some (.int .i64 a0_4) := (blk_cell BK177.out 4).trans rfl
   have hcz36_5 : wr.cell? ⟨gb177, 5, none⟩ = some (.int .i64 a0_5) := (blk_cell BK177.out 5).trans rfl
   have hcz36_6 : wr.cell? ⟨gb177, 6, none⟩ = some (.string a0_6) := (blk_cell BK177.out 6).trans rfl
   have hcz36_7 : wr.cell? ⟨gb177, 7, none⟩ = some (.int .i64 a0_7) := (blk_cell BK177.out 7).trans rfl
   have hcz36_8 : wr.cell? ⟨gb177, 8, none⟩ = some (.int .i64 a0_8) := (blk_cell BK177.out 8).trans rfl
   have hfz36_0 := blk_frozen BK177.out 0
   have hfz36_1 := blk_frozen BK177.out 1
   have hfz36_2 := blk_frozen BK177.out 2
   have hfz36_3 := blk_frozen BK177.out 3
   have hfz36_4 := blk_frozen BK177.out 4
   have hfz36_5 := blk_frozen BK177.out 5
   have hfz36_6 := blk_frozen BK177.out 6
   have hfz36_7 := blk_frozen BK177.out 7
   have hfz36_8 := blk_frozen BK177.out 8
   try go_wp2
   have n0_ := qas (qkB BK177.out)
   have n1_ := qas (qbC HB.out)
   clear BK177
   clear HB
   have BK177 := n0_
   have HB := n1_
   clear n0_ n1_
   refine start_ (n := 14) (S := fun w' => w'.cell? ⟨gb177, 0, none⟩ = some (.string a0_0) ∧ w'.cell? ⟨gb177, 1, none⟩ = some (.bool false) ∧ w'.cell? ⟨gb177, 2, none⟩ = some (.slice A0_2 l0_2.length c0_2) ∧ w'.cell? ⟨gb177, 3, none⟩ = some (.int .i64 a0_3) ∧ w'.cell? ⟨gb177, 4, none⟩ = some (.int .i64 a0_4) ∧ w'.cell? ⟨gb177, 5, none⟩ = some (.int .i64 a0_5) ∧ w'.cell? ⟨gb177, 6, none⟩ = some (.string a0_6) ∧ w'.cell? ⟨gb177, 7, none⟩ = some (.int .i64 a0_7) ∧ w'.cell? ⟨gb177, 8, none⟩ = some (.int .i64 a0_8)) (ds := []) #[qf, qf, qf, qf, qf, qf, qf, qf, qf, qf, qf, qf, qf, qf] (by kernel_rfl) rfl rfl ⟨(blk_cell BK177.out 0).trans rfl, (blk_cell BK177.out 1).trans rfl, (blk_cell BK177.out 2).trans rfl, (blk_cell BK177.out 3).trans rfl, (blk_cell BK177.out 4).trans rfl, (blk_cell BK177.out 5).trans rfl, (blk_cell BK177.out 6).trans rfl, (blk_cell BK177.out 7).trans rfl, (blk_cell BK177.out 8).trans rfl⟩ (fun hHeld => ?_); refine with_tabW pr_PutExtra.tab11 pr_PutExtra.bits11 (fun HT_ HW_ => ?_)
   generalize wr.drew = w37 at BK177 HB hHeld ⊢
   refine pure_ (i := 0) (N := some 30) (v := ?_) (a' := ?_) #[qt, qf, qf, qf, qf, qf, qf, qf, qf, qf, qf, qf, qf, qf] rfl rfl (any_of HT_.out (by kernel_rfl)) (fun _ _ _ h => h) (Or.inl ⟨by rfl, ?_⟩) ?_ ?_
   rotate_left
   ·intro w'
    go_simp
    with_reducible rfl
   rotate_left
   ·simp only [Act.put, qsA, qsB, qsC, i64_w, i32_w, qsD, qsE]
    rfl
   refine pure_ (i := 1) (N := some 31) (v := ?_) (a' := ?_) #[qt, qt, qf, qf, qf, qf, qf, qf, qf, qf, qf, qf, qf, qf] rfl rfl (any_of HT_.out (by kernel_rfl)) (fun _ _ _ h => h) (Or.inl ⟨by rfl, ?_⟩) ?_ ?_
   rotate_left
   ·intro w'
    go_simp
    with_reducible rfl
   rotate_left
   ·simp only [Act.put, qsA, qsB, qsC, i64_w, i32_w, qsD, qsE]
    rfl
   refine pure_ (i := 5) (N := some 35) (v := ?_) (a' := ?_) #[qt, qt, qf, qf, qf, qt, qf, qf, qf, qf, qf, qf, qf, qf] rfl rfl (any_of HT_.out (by kernel_rfl)) (fun _ _ _ h => h) (Or.inl ⟨by rfl, ?_⟩) ?_ ?_
   rotate_left
   ·intro w'
    go_simp
    with_reducible rfl
   rotate_left
   ·simp only [Act.put, qsA, qsB, qsC, i64_w, i32_w, qsD, qsE]
    rfl
   refine pure_ (i := 9) (N := some 39) (v := ?_) (a' := ?_) #[qt, qt, qf, qf, qf, qt, qf, qf, qf, qt, qf, qf, qf, qf] rfl rfl (any_of HT_.out (by kernel_rfl)) (fun _ _ _ h => h) (Or.inl ⟨by rfl, ?_⟩) ?_ ?_
   rotate_left
   ·intro w'
    go_simp
    with_reducible rfl
   rotate_left
   ·simp only [Act.put, qsA, qsB, qsC, i64_w, i32_w, qsD, qsE]
    rfl
   refine take_ (i := 2) (N := some 32) (v := ?_) (a' := ?_) #[qt, qt, qt, qf, qf, qt, qf, qf, qf, qt, qf, qf, qf, qf] rfl rfl (take_ofW HT_.out HW_.out (by kernel_rfl)) (fun _ _ _ h => h) (Or.inl ⟨by rfl, ?_⟩) hHeld ?_ ?_
   rotate_left
   ·rintro w' ⟨s0, s1, s2, s3, s4, s5, s6, s7, s8⟩
    go_simp
    with_reducible rfl
   rotate_left
   ·simp only [Act.put, qsA, qsB, qsC, i64_w, i32_w, qsD, qsE]
    rfl
   refine take_ (i := 6) (N := some 36) (v := ?_) (a' := ?_) #[qt, qt, qt, qf, qf, qt, qt, qf, qf, qt, qf, qf, qf, qf] rfl rfl (take_ofW HT_.out HW_.out (by kernel_rfl)) (fun _ _ _ h => h) (Or.inl ⟨by rfl, ?_⟩) hHeld ?_ ?_
   rotate_left
   ·rintro w' ⟨s0, s1, s2, s3, s4, s5, s6, s7, s8⟩
    go_simp
    with_reducible rfl
   rotate_left
   ·simp only [Act.put, qsA, qsB, qsC, i64_w, i32_w, qsD, qsE]
    rfl
   refine one_ (i := 3) (N := some 33) #[qt, qt, qt, qt, qf, qt, qt, qf, qf, qt, qf, qf, qf, qf] rfl rfl (one_of HT_.out (by kernel_rfl)) (by decide) (fun K hK => ?_)
   refine goes_ Tryd.func53 (by kernel_rfl) rfl #[.int .i64 a0_3, .int .i64 4] (by rfl) rfl rfl (by (try simp only [List.map_toArray, List.map_cons, List.map_nil]); first | done | rfl | (simp only [List.length_drop, List.length_take]; rfl)) ?_
   with_reducible refine (pr_Bytes.calls k1 a0_3 4 t186 _ A30.out).mono ?_
   rintro e w38 ⟨rfl, hb⟩
   refine ⟨_, rfl, ?_⟩
   have n0_ := qas (blk_below (g := gb177) (o := .cells #[.string a0_0, .bool false, .slice A0_2 l0_2.length c0_2, .int .i64 a0_3, .int .i64 a0_4, .int .i64 a0_5, .string a0_6, .int .i64 a0_7, .int .i64 a0_8] 39 (0, 0)) (by (with_reducible repeat (first | refine qkA ?_ _ | refine qkB ?_ | refine qkC ?_ _)); exact BK177.out) hb)
   have n1_ := qas (below_step (by repeat (first | (with_reducible first | exact HB.out | apply qbA | apply qbB | apply qbC | refine below_set ?_ GE177.out) | exact HB.out)) hb)
   clear BK177
   clear HB
   have BK177 := n0_
   have HB := n1_
   clear n0_ n1_
   (try clear hb)
   (try clear hb2)
   (try clear hk)
   (try clear hi)
   refine hK.out _ _ ⟨(blk_cell BK177.out 0).trans rfl, (blk_cell BK177.out 1).trans rfl, (blk_cell BK177.out 2).trans rfl, (blk_cell BK177.out 3).trans rfl, (blk_cell BK177.out 4).trans rfl, (blk_cell BK177.out 5).trans rfl, (blk_cell BK177.out 6).trans rfl, (blk_cell BK177.out 7).trans rfl, (blk_cell BK177.out 8).trans rfl⟩ (fun hHeld => ?_)
   clear hK K
   refine norm_ (a' := ?_) ?_ ?_
   rotate_left
   ·show Act.put _ (some 33) _ = _
    simp only [Act.put, qsA, qsB, qsC, i64_w, i32_w, qsD, qsE]
    rfl
   refine pure_ (i := 4) (N := some 34) (v := ?_) (a' := ?_) #[qt, qt, qt, qt, qt, qt, qt, qf, qf, qt, qf, qf, qf, qf] rfl rfl (any_of HT_.out (by kernel_rfl)) (fun _ _ _ h => h) (Or.inl ⟨by rfl, ?_⟩) ?_ ?_
   rotate_left
   ·intro w'
    go_simp
    with_reducible rfl
   rotate_left
   ·simp only [Act.put, qsA, qsB, qsC, i64_w, i32_w, qsD, qsE]
    rfl
   refine one_ (i := 7) (N := some 37) #[qt, qt, qt, qt, qt, qt, qt, qt, qf, qt, qf, qf, qf, qf] rfl rfl (one_of HT_.out (by kernel_rfl)) (by decide) (fun K hK => ?_)
   refine goes_ Tryd.func53 (by kernel_rfl) rfl #[.int .i64 a0_4, .int .i64 1] (by rfl) rfl rfl (by (try simp only [List.map_toArray, List.map_cons, List.map_nil]); first | done | rfl | (simp only [List.length_drop, List.length_take]; rfl)) ?_
   with_reducible refine (pr_Bytes.calls k1 a0_4 1 t187 _ A32.out).mono ?_
   rintro e w39 ⟨rfl, hb⟩
   refine ⟨_, rfl, ?_⟩
   have n0_ := qas (blk_below (g := gb177) (o := .cells #[.string a0_0, .bool false, .slice A0_2 l0_2.length c0_2, .int .i64 a0_3, .int .i64 a0_4, .int .i64 a0_5, .string a0_6, .int .i64 a0_7, .int .i64 a0_8] 39 (0, 0)) (by (with_reducible repeat (first | refine qkA ?_ _ | refine qkB ?_ | refine qkC ?_ _)); exact BK177.out) hb)
   have n1_ := qas (below_step (by repeat (first | (with_reducible first | exact HB.out | apply qbA | apply qbB | apply qbC | refine below_set ?_ GE177.out) | exact HB.out)) hb)
   clear BK177
   clear HB
   have BK177 := n0_
   have HB := n1_
   clear n0_ n1_
   (try clear hb)
   (try clear hb2)
   (try clear hk)
   (try clear hi)
   refine hK.out _ _ ⟨(blk_cell BK177.out 0).trans rfl, (blk_cell BK177.out 1).trans rfl, (blk_cell BK177.out 2).trans rfl, (blk_cell BK177.out 3).trans rfl, (blk_cell BK177.out 4).trans rfl, (blk_cell BK177.out 5).trans rfl, (blk_cell BK177.out 6).trans rfl, (blk_cell BK177.out 7).trans rfl, (blk_cell BK177.out 8).trans rfl⟩ (fun hHeld => ?_)
   clear hK K
   refine norm_ (a' := ?_) ?_ ?_
   rotate_left
   ·show Act.put _ (some 37) _ = _
    simp only [Act.put, qsA, qsB, qsC, i64_w, i32_w, qsD, qsE]
    rfl
   refine pure_ (i := 8) (N := some 38) (v := ?_) (a' := ?_) #[qt, qt, qt, qt, qt, qt, qt, qt, qt, qt, qf, qf, qf, qf] rfl rfl (any_of HT_.out (by kernel_rfl)) (fun _ _ _ h => h) (Or.inl ⟨by rfl, ?_⟩) ?_ ?_
   rotate_left
   ·intro w'
    go_simp
    with_reducible rfl
   rotate_left
   ·simp only [Act.put, qsA, qsB, qsC, i64_w, i32_w, qsD, qsE]
    rfl
   refine one_ (i := 10) (N := some 40) #[qt, qt, qt, qt, qt, qt, qt, qt, qt, qt, qt, qf, qf, qf] rfl rfl (one_of HT_.out (by kernel_rfl)) (by decide) (fun K hK => ?_)
   refine goes_ Tryd.func53 (by kernel_rfl) rfl #[.int .i64 0, .int .i64 1] (by rfl) rfl rfl (by (try simp only [List.map_toArray, List.map_cons, List.map_nil]); first | done | rfl | (simp only [List.length_drop, List.length_take]; rfl)) ?_
   with_reducible refine (pr_Bytes.calls k1 0 1 t188 _ A34.out).mono ?_
   rintro e w40 ⟨rfl, hb⟩
   refine ⟨_, rfl, ?_⟩
   have n0_ := qas (blk_below (g := gb177) (o := .cells #[.string a0_0, .bool false, .slice A0_2 l0_2.length c0_2, .int .i64 a0_3, .int .i64 a0_4, .int .i64 a0_5, .string a0_6, .int .i64 a0_7, .int .i64 a0_8] 39 (0, 0)) (by (with_reducible repeat (first | refine qkA ?_ _ | refine qkB ?_ | refine qkC ?_ _)); exact BK177.out) hb)
   have n1_ := qas (below_step (by repeat (first | (with_reducible first | exact HB.out | apply qbA | apply qbB | apply qbC | refine below_set ?_ GE177.out) | exact HB.out)) hb)
   clear BK177
   clear HB
   have BK177 := n0_
   have HB := n1_
   clear n0_ n1_
   (try clear hb)
   (try clear hb2)
   (try clear hk)
   (try clear hi)
   refine hK.out _ _ ⟨(blk_cell BK177.out 0).trans rfl, (blk_cell BK177.out 1).trans rfl, (blk_cell BK177.out 2).trans rfl, (blk_cell BK177.out 3).trans rfl, (blk_cell BK177.out 4).trans rfl, (blk_cell BK177.out 5).trans rfl, (blk_cell BK177.out 6).trans rfl, (blk_cell BK177.out 7).trans rfl, (blk_cell BK177.out 8).trans rfl⟩ (fun hHeld => ?_)
   clear hK K
   refine norm_ (a' := ?_) ?_ ?_
   rotate_left
   ·show Act.put _ (some 40) _ = _
    simp only [Act.put, qsA, qsB, qsC, i64_w, i32_w, qsD, qsE]
    rfl
   refine pure_ (i := 11) (N := some 41) (v := ?_) (a' := ?_) #[qt, qt, qt, qt, qt, qt, qt, qt, qt, qt, qt, qt, qf, qf] rfl rfl (any_of HT_.out (by kernel_rfl)) (fun _ _ _ h => h) (Or.inl ⟨by rfl, ?_⟩) ?_ ?_
   rotate_left
   ·intro w'
    go_simp
    with_reducible rfl
   rotate_left
   ·simp only [Act.put, qsA, qsB, qsC, i64_w, i32_w, qsD, qsE]
    rfl
   refine pure_ (i := 12) (N := some 2) (v := ?_) (a' := ?_) #[qt, qt, qt, qt, qt, qt, qt, qt, qt, qt, qt, qt, qt, qf] rfl rfl (any_of HT_.out (by kernel_rfl)) (fun _ _ _ h => h) (Or.inl ⟨by rfl, ?_⟩) ?_ ?_
   rotate_left
   ·intro w'
    go_simp
    with_reducible rfl
   rotate_left
   ·simp only [Act.put, qsA, qsB, qsC, i64_w, i32_w, qsD, qsE]
    rfl
   refine pure_ (i := 13) (N := some 3) (v := ?_) (a' := ?_) #[qt, qt, qt, qt, qt, qt, qt, qt, qt, qt, qt, qt, qt, qt] rfl rfl (any_of HT_.out (by kernel_rfl)) (fun _ _ _ h => h) (Or.inl ⟨by rfl, ?_⟩) ?_ ?_
   rotate_left
   ·intro w'
    go_simp
    with_reducible rfl
   rotate_left
   ·simp only [Act.put, qsA, qsB, qsC, i64_w, i32_w, qsD, qsE]
    rfl
   refine done_ (done_of HT_.out (by kernel_rfl)) ?_
   try go_wp2
   go_ret2
   exact ⟨by first | rfl | (simp [errW_none, errW_some] <;> rfl) | (simp [*, errW_none, errW_some] <;> rfl), by repeat (first | (with_reducible first | exact HB.out | apply qbA | apply qbB | apply qbC | refine below_set ?_ GE177.out) | exact HB.out)⟩

attribute [local go_sem] max2_int min2_int max_two min_two max_three min_three max_four min_four   -- for this text's walks alone
set_option linter.unusedVariables false
set_option linter.unusedSimpArgs false

/-! ### pr_common: function 54 -/
def pr_common.f (k : Nat) (a0_0 : ByteArray) (a0_1 : Bool) (l0_2 : List Int) (a0_3 : Int) (a0_4 : Int) (a0_5 : Int) (a0_6 : ByteArray) (a0_7 : Int) (a0_8 : Int) : Option (ByteArray) := (pr_Bytes.f k 20 2).bind fun t190 => ((pr_Bytes.f k 0 2).bind fun t191 => (if t190.size + t191.size ≤ 9223372036854775807 then ((pr_Bytes.f k a0_5 2).bind fun t192 => (if (t190 ++ t191).size + t192.size ≤ 9223372036854775807 then ((pr_Bytes.f k 0 2).bind fun t193 => (if ((t190 ++ t191) ++ t192).size + t193.size ≤ 9223372036854775807 then ((pr_Bytes.f k 0 2).bind fun t194 => (if (((t190 ++ t191) ++ t192) ++ t193).size + t194.size ≤ 9223372036854775807 then ((pr_Bytes.f k a0_8 4).bind fun t195 => (if ((((t190 ++ t191) ++ t192) ++ t193) ++ t194).size + t195.size ≤ 9223372036854775807 then ((pr_Bytes.f k (a0_6.size : Int) 4).bind fun t196 => (if (((((t190 ++ t191) ++ t192) ++ t193) ++ t194) ++ t195).size + t196.size ≤ 9223372036854775807 then ((pr_Bytes.f k a0_7 4).bind fun t197 => (if ((((((t190 ++ t191) ++ t192) ++ t193) ++ t194) ++ t195) ++ t196).size + t197.size ≤ 9223372036854775807 then ((pr_Bytes.f k (a0_0.size : Int) 2).bind fun t198 => (if (((((((t190 ++ t191) ++ t192) ++ t193) ++ t194) ++ t195) ++ t196) ++ t197).size + t198.size ≤ 9223372036854775807 then ((pr_Bytes.f k 26 2).bind fun t199 => (if ((((((((t190 ++ t191) ++ t192) ++ t193) ++ t194) ++ t195) ++ t196) ++ t197) ++ t198).size + t199.size ≤ 9223372036854775807 then (some (((((((((t190 ++ t191) ++ t192) ++ t193) ++ t194) ++ t195) ++ t196) ++ t197) ++ t198) ++ t199)) else (none))) else (none))) else (none))) else (none))) else (none))) else (none))) else (none))) else (none))) else (none)))
theorem pr_common.mono : ∀ a0 a1 a2 a3 a4 a5 a6 a7 a8 k, LeO (pr_common.f k a0 a1 a2 a3 a4 a5 a6 a7 a8) (pr_common.f (k + 1) a0 a1 a2 a3 a4 a5 a6 a7 a8) := by
 intro a0 a1 a2 a3 a4 a5 a6 a7 a8 k
 unfold pr_common.f
 repeat' first
   | (with_reducible exact pr_Bytes.mono _ _ _)
   | (with_reducible exact LeO.refl _)
   | (with_reducible exact LeO.none _)
   | (with_reducible refine LeO.ite ?_ ?_)
   | (with_reducible refine LeO.bind ?_ (fun _ => ?_))
   | exact pr_Bytes.mono _ _ _
   | exact LeO.none _
   | refine LeO.ite ?_ ?_
   | refine LeO.bind ?_ (fun _ => ?_)
def pr_common.T1 : Bool × List (List Nat × List Nat) := (true, [([], []), ([0], []), ([0, 1], [0, 1]), ([], []), ([3], [3]), ([4, 1], [4]), ([2, 5], [2, 5]), ([5], []), ([6, 7], [6, 7]), ([7], []), ([8, 9], [8, 9]), ([], []), ([11], [11]), ([12, 9], [12]), ([10, 13], [10, 13]), ([], []), ([15], [15]), ([16], [16]), ([17, 13], [17]), ([14, 18], [14, 18]), ([], []), ([20], [20]), ([21, 18], [21]), ([19, 22], [19, 22]), ([], []), ([24], [24]), ([25], [25]), ([26, 22], [26]), ([23, 27], [23, 27]), ([27], []), ([28, 29], [28, 29]), ([30, 29, 0, 1, 2, 3, 4, 5, 6, 7, 8, 9, 10, 11, 12, 13, 14, 15, 16, 17, 18, 19, 20, 21, 22, 23, 24, 25, 26, 27, 28, 29, 30], [30])])
def pr_common.B1 : List Nat := [0, 1, 3, 0, 8, 27, 63, 59, 255, 187, 1023, 0, 2048, 6843, 16383, 0, 32768, 98304, 244411, 524287, 0, 1048576, 3652283, 8388607, 0, 16777216, 50331648, 125287099, 268435455, 259504827, 1073741823, 2147483647]
theorem pr_common.tab1 : rtab .any (opsOf Tryd.f54 1) = pr_common.T1 := by kernel_rfl
theorem pr_common.bits1 : waitsOk pr_common.T1.2 pr_common.B1 = true := by kernel_rfl
set_option maxHeartbeats 8000000 in
set_option maxRecDepth 100000 in
theorem pr_common.calls (k : Nat) (a0_0 : ByteArray) (a0_1 : Bool) (A0_2 : Option Addr) (c0_2 : Nat) (l0_2 : List Int) (a0_3 : Int) (a0_4 : Int) (a0_5 : Int) (a0_6 : ByteArray) (a0_7 : Int) (a0_8 : Int) (r : ByteArray) (w : World) (hr0_2 : Kd.C (Kd.int .i64) w A0_2 l0_2.length l0_2) (hc0_2 : l0_2.length ≤ c0_2) (h : pr_common.f k a0_0 a0_1 l0_2 a0_3 a0_4 a0_5 a0_6 a0_7 a0_8 = some r) :
  Calls Tryd.prog 54 #[.agg #[.string a0_0, .bool a0_1, .slice A0_2 l0_2.length c0_2, .int .i64 a0_3, .int .i64 a0_4, .int .i64 a0_5, .string a0_6, .int .i64 a0_7, .int .i64 a0_8]] w fun e w' => e = .returned (.string r) ∧ Below w.heap.size w w' := by
 have hu39 := Tryd.underlying39
 have HR0_2 := qas hr0_2
 have HC0_2 := qas hc0_2
 clear hr0_2 hc0_2
 have HB := qas (Below.refl w.heap.size w)
 have H : ((pr_Bytes.f k 20 2).bind fun t190 => ((pr_Bytes.f k 0 2).bind fun t191 => (if t190.size + t191.size ≤ 9223372036854775807 then ((pr_Bytes.f k a0_5 2).bind fun t192 => (if (t190 ++ t191).size + t192.size ≤ 9223372036854775807 then ((pr_Bytes.f k 0 2).bind fun t193 => (if ((t190 ++ t191) ++ t192).size + t193.size ≤ 9223372036854775807 then ((pr_Bytes.f k 0 2).bind fun t194 => (if (((t190 ++ t191) ++ t192) ++ t193).size + t194.size ≤ 9223372036854775807 then ((pr_Bytes.f k a0_8 4).bind fun t195 => (if ((((t190 ++ t191) ++ t192) ++ t193) ++ t194).size + t195.size ≤ 9223372036854775807 then ((pr_Bytes.f k (a0_6.size : Int) 4).bind fun t196 => (if (((((t190 ++ t191) ++ t192) ++ t193) ++ t194) ++ t195).size + t196.size ≤ 9223372036854775807 then ((pr_Bytes.f k a0_7 4).bind fun t197 => (if ((((((t190 ++ t191) ++ t192) ++ t193) ++ t194) ++ t195) ++ t196).size + t197.size ≤ 9223372036854775807 then ((pr_Bytes.f k (a0_0.size : Int) 2).bind fun t198 => (if (((((((t190 ++ t191) ++ t192) ++ t193) ++ t194) ++ t195) ++ t196) ++ t197).size + t198.size ≤ 9223372036854775807 then ((pr_Bytes.f k 26 2).bind fun t199 => (if ((((((((t190 ++ t191) ++ t192) ++ t193) ++ t194) ++ t195) ++ t196) ++ t197) ++ t198).size + t199.size ≤ 9223372036854775807 then (some (((((((((t190 ++ t191) ++ t192) ++ t193) ++ t194) ++ t195) ++ t196) ++ t197) ++ t198) ++ t199)) else (none))) else (none))) else (none))) else (none))) else (none))) else (none))) else (none))) else (none))) else (none)))) = some r := h
 clear h
 replace H := Option.bind_eq_some_iff.mp H
 obtain ⟨t190, A20, H⟩ := H
 replace H : ((pr_Bytes.f k 0 2).bind fun t191 => (if t190.size + t191.size ≤ 9223372036854775807 then ((pr_Bytes.f k a0_5 2).bind fun t192 => (if (t190 ++ t191).size + t192.size ≤ 9223372036854775807 then ((pr_Bytes.f k 0 2).bind fun t193 => (if ((t190 ++ t191) ++ t192).size + t193.size ≤ 9223372036854775807 then ((pr_Bytes.f k 0 2).bind fun t194 => (if (((t190 ++ t191) ++ t192) ++ t193).size + t194.size ≤ 9223372036854775807 then ((pr_Bytes.f k a0_8 4).bind fun t195 => (if ((((t190 ++ t191) ++ t192) ++ t193) ++ t194).size + t195.size ≤ 9223372036854775807 then ((pr_Bytes.f k (a0_6.size : Int) 4).bind fun t196 => (if (((((t190 ++ t191) ++ t192) ++ t193) ++ t194) ++ t195).size + t196.size ≤ 9223372036854775807 then ((pr_Bytes.f k a0_7 4).bind fun t197 => (if ((((((t190 ++ t191) ++ t192) ++ t193) ++ t194) ++ t195) ++ t196).size + t197.size ≤ 9223372036854775807 then ((pr_Bytes.f k (a0_0.size : Int) 2).bind fun t198 => (if (((((((t190 ++ t191) ++ t192) ++ t193) ++ t194) ++ t195) ++ t196) ++ t197).size + t198.size ≤ 9223372036854775807 then ((pr_Bytes.f k 26 2).bind fun t199 => (if ((((((((t190 ++ t191) ++ t192) ++ t193) ++ t194) ++ t195) ++ t196) ++ t197) ++ t198).size + t199.size ≤ 9223372036854775807 then (some (((((((((t190 ++ t191) ++ t192) ++ t193) ++ t194) ++ t195) ++ t196) ++ t197) ++ t198) ++ t199)) else (none))) else (none))) else (none))) else (none))) else (none))) else (none))) else (none))) else (none))) else (none))) = some r := H
 have A2 := qas A20
 clear A20
 replace H := Option.bind_eq_some_iff.mp H
 obtain ⟨t191, A30, H⟩ := H
 replace H : (if t190.size + t191.size ≤ 9223372036854775807 then ((pr_Bytes.f k a0_5 2).bind fun t192 => (if (t190 ++ t191).size + t192.size ≤ 9223372036854775807 then ((pr_Bytes.f k 0 2).bind fun t193 => (if ((t190 ++ t191) ++ t192).size + t193.size ≤ 9223372036854775807 then ((pr_Bytes.f k 0 2).bind fun t194 => (if (((t190 ++ t191) ++ t192) ++ t193).size + t194.size ≤ 9223372036854775807 then ((pr_Bytes.f k a0_8 4).bind fun t195 => (if ((((t190 ++ t191) ++ t192) ++ t193) ++ t194).size + t195.size ≤ 9223372036854775807 then ((pr_Bytes.f k (a0_6.size : Int) 4).bind fun t196 => (if (((((t190 ++ t191) ++ t192) ++ t193) ++ t194) ++ t195).size + t196.size ≤ 9223372036854775807 then ((pr_Bytes.f k a0_7 4).bind fun t197 => (if ((((((t190 ++ t191) ++ t192) ++ t193) ++ t194) ++ t195) ++ t196).size + t197.size ≤ 9223372036854775807 then ((pr_Bytes.f k (a0_0.size : Int) 2).bind fun t198 => (if (((((((t190 ++ t191) ++ t192) ++ t193) ++ t194) ++ t195) ++ t196) ++ t197).size + t198.size ≤ 9223372036854775807 then ((pr_Bytes.f k 26 2).bind fun t199 => (if ((((((((t190 ++ t191) ++ t192) ++ t193) ++ t194) ++ t195) ++ t196) ++ t197) ++ t198).size + t199.size ≤ 9223372036854775807 then (some (((((((((t190 ++ t191) ++ t192) ++ t193) ++ t194) ++ t195) ++ t196) ++ t197) ++ t198) ++ t199)) else (none))) else (none))) else (none))) else (none))) else (none))) else (none))) else (none))) else (none))) else (none)) = some r := H
 have A3 := qas A30
 clear A30
 by_cases c4 : t190.size + t191.size ≤ 9223372036854775807
 rotate_left
 ·rw [if_neg c4] at H
  exact absurd H (by simp)
 rw [if_pos c4] at H
 have c4b0 := eq_true c4
 have c4b1 : decide (t190.size + t191.size ≤ 9223372036854775807) = true := decide_eq_true c4
 try have c4b2 : (9223372036854775807 < t190.size + t191.size) = False := eq_false (Nat.not_lt.2 c4)
 replace H := Option.bind_eq_some_iff.mp H
 obtain ⟨t192, A50, H⟩ := H
 replace H : (if (t190 ++ t191).size + t192.size ≤ 9223372036854775807 then ((pr_Bytes.f k 0 2).bind fun t193 => (if ((t190 ++ t191) ++ t192).size + t193.size ≤ 9223372036854775807 then ((pr_Bytes.f k 0 2).bind fun t194 => (if (((t190 ++ t191) ++ t192) ++ t193).size + t194.size ≤ 9223372036854775807 then ((pr_Bytes.f k a0_8 4).bind fun t195 => (if ((((t190 ++ t191) ++ t192) ++ t193) ++ t194).size + t195.size ≤ 9223372036854775807 then ((pr_Bytes.f k (a0_6.size : Int) 4).bind fun t196 => (if (((((t190 ++ t191) ++ t192) ++ t193) ++ t194) ++ t195).size + t196.size ≤ 9223372036854775807 then ((pr_Bytes.f k a0_7 4).bind fun t197 => (if ((((((t190 ++ t191) ++ t192) ++ t193) ++ t194) ++ t195) ++ t196).size + t197.size ≤ 9223372036854775807 then ((pr_Bytes.f k (a0_0.size : Int) 2).bind fun t198 => (if (((((((t190 ++ t191) ++ t192) ++ t193) ++ t194) ++ t195) ++ t196) ++ t197).size + t198.size ≤ 9223372036854775807 then ((pr_Bytes.f k 26 2).bind fun t199 => (if ((((((((t190 ++ t191) ++ t192) ++ t193) ++ t194) ++ t195) ++ t196) ++ t197) ++ t198).size + t199.size ≤ 9223372036854775807 then (some (((((((((t190 ++ t191) ++ t192) ++ t193) ++ t194) ++ t195) ++ t196) ++ t197) ++ t198) ++ t199)) else (none))) else (none))) else (none))) else (none))) else (none))) else (none))) else (none))) else (none)) = some r := H
 have A5 := qas A50
 clear A50
 by_cases c6 : (t190 ++ t191).size + t192.size ≤ 9223372036854775807
 rotate_left
 ·rw [if_neg c6] at H
  exact absurd H (by simp)
 rw [if_pos c6] at H
 have c6b0 := eq_true c6
 have c6b1 : decide ((t190 ++ t191).size + t192.size ≤ 9223372036854775807) = true := decide_eq_true c6
 try have c6b2 : (9223372036854775807 < (t190 ++ t191).size + t192.size) = False := eq_false (Nat.not_lt.2 c6)
 have c6b9 : (9223372036854775807 < (t190 ++ t191).size + t192.size) = False := eq_false (Nat.not_lt.2 c6)
 (first | (simp only [ByteArray.size_append] at c6b9) | (try simp only [ByteArray.size_append] at c6b9))
 replace H := Option.bind_eq_some_iff.mp H
 obtain ⟨t193, A70, H⟩ := H
 replace H : (if ((t190 ++ t191) ++ t192).size + t193.size ≤ 9223372036854775807 then ((pr_Bytes.f k 0 2).bind fun t194 => (if (((t190 ++ t191) ++ t192) ++ t193).size + t194.size ≤ 9223372036854775807 then ((pr_Bytes.f k a0_8 4).bind fun t195 => (if ((((t190 ++ t191) ++ t192) ++ t193) ++ t194).size + t195.size ≤ 9223372036854775807 then ((pr_Bytes.f k (a0_6.size : Int) 4).bind fun t196 => (if (((((t190 ++ t191) ++ t192) ++ t193) ++ t194) ++ t195).size + t196.size ≤ 9223372036854775807 then ((pr_Bytes.f k a0_7 4).bind fun t197 => (if ((((((t190 ++ t191) ++ t192) ++ t193) ++ t194) ++ t195) ++ t196).size + t197.size ≤ 9223372036854775807 then ((pr_Bytes.f k (a0_0.size : Int) 2).bind fun t198 => (if (((((((t190 ++ t191) ++ t192) ++ t193) ++ t194) ++ t195) ++ t196) ++ t197).size + t198.size ≤ 9223372036854775807 then ((pr_Bytes.f k 26 2).bind fun t199 => (if ((((((((t190 ++ t191) ++ t192) ++ t193) ++ t194) ++ t195) ++ t196) ++ t197) ++ t198).size + t199.size ≤ 9223372036854775807 then (some (((((((((t190 ++ t191) ++ t192) ++ t193) ++ t194) ++ t195) ++ t196) ++ t197) ++ t198) ++ t199)) else (none))) else (none))) else (none))) else (none))) else (none))) else (none))) else (none)) = some r := H
 have A7 := qas A70
 clear A70
 by_cases c8 : ((t190 ++ t191) ++ t192).size + t193.size ≤ 9223372036854775807
 rotate_left
 ·rw [if_neg c8] at H
  exact absurd H (by simp)
 rw [if_pos c8] at H
 have c8b0 := eq_true c8
 have c8b1 : decide (((t190 ++ t191) ++ t192).size + t193.size ≤ 9223372036854775807) = true := decide_eq_true c8
 try have c8b2 : (9223372036854775807 < ((t190 ++ t191) ++ t192).size + t193.size) = False := eq_false (Nat.not_lt.2 c8)
 have c8b9 : (9223372036854775807 < ((t190 ++ t191) ++ t192).size + t193.size) = False := eq_false (Nat.not_lt.2 c8)
 (first | (simp only [ByteArray.size_append] at c8b9) | (try simp only [ByteArray.size_append] at c8b9))
 replace H := Option.bind_eq_some_iff.mp H
 obtain ⟨t194, A90, H⟩ := H
 replace H : (if (((t190 ++ t191) ++ t192) ++ t193).size + t194.size ≤ 9223372036854775807 then ((pr_Bytes.f k a0_8 4).bind fun t195 => (if ((((t190 ++ t191) ++ t192) ++ t193) ++ t194).size + t195.size ≤ 9223372036854775807 then ((pr_Bytes.f k (a0_6.size : Int) 4).bind fun t196 => (if (((((t190 ++ t191) ++ t192) ++ t193) ++ t194) ++ t195).size + t196.size ≤ 9223372036854775807 then ((pr_Bytes.f k a0_7 4).bind fun t197 => (if ((((((t190 ++ t191) ++ t192) ++ t193) ++ t194) ++ t195) ++ t196).size + t197.size ≤ 9223372036854775807 then ((pr_Bytes.f k (a0_0.size : Int) 2).bind fun t198 => (if (((((((t190 ++ t191) ++ t192) ++ t193) ++ t194) ++ t195) ++ t196) ++ t197).size + t198.size ≤ 9223372036854775807 then ((pr_Bytes.f k 26 2).bind fun t199 => (if ((((((((t190 ++ t191) ++ t192) ++ t193) ++ t194) ++ t195) ++ t196) ++ t197) ++ t198).size + t199.size ≤ 9223372036854775807 then (some (((((((((t190 ++ t191) ++ t192) ++ t193) ++ t194) ++ t195) ++ t196) ++ t197) ++ t198) ++ t199)) else (none))) else (none))) else (none))) else (none))) else (none))) else (none)) = some r := H
 have A9 := qas A90
 clear A90
 by_cases c10 : (((t190 ++ t191) ++ t192) ++ t193).size + t194.size ≤ 9223372036854775807
 rotate_left
 ·rw [if_neg c10] at H
  exact absurd H (by simp)
 rw [if_pos c10] at H
 have c10b0 := eq_true c10
 have c10b1 : decide ((((t190 ++ t191) ++ t192) ++ t193).size + t194.size ≤ 9223372036854775807) = true := decide_eq_true c10
 try have c10b2 : (9223372036854775807 < (((t190 ++ t191) ++ t192) ++ t193).size + t194.size) = False := eq_false (Nat.not_lt.2 c10)
 have c10b9 : (9223372036854775807 < (((t190 ++ t191) ++ t192) ++ t193).size + t194.size) = False := eq_false (Nat.not_lt.2 c10)
 (first | (simp only [ByteArray.size_append] at c10b9) | (try simp only [ByteArray.size_append] at c10b9))
 replace H := Option.bind_eq_some_iff.mp H
 obtain ⟨t195, A110, H⟩ := H
 replace H : (if ((((t190 ++ t191) ++ t192) ++ t193) ++ t194).size + t195.size ≤ 9223372036854775807 then ((pr_Bytes.f k (a0_6.size : Int) 4).bind fun t196 => (if (((((t190 ++ t191) ++ t192) ++ t193) ++ t194) ++ t195).size + t196.size ≤ 9223372036854775807 then ((pr_Bytes.f k a0_7 4).bind fun t197 => (if ((((((t190 ++ t191) ++ t192) ++ t193) ++ t194) ++ t195) ++ t196).size + t197.size ≤ 9223372036854775807 then ((pr_Bytes.f k (a0_0.size : Int) 2).bind fun t198 => (if (((((((t190 ++ t191) ++ t192) ++ t193) ++ t194) ++ t195) ++ t196) ++ t197).size + t198.size ≤ 9223372036854775807 then ((pr_Bytes.f k 26 2).bind fun t199 => (if ((((((((t190 ++ t191) ++ t192) ++ t193) ++ t194) ++ t195) ++ t196) ++ t197) ++ t198).size + t199.size ≤ 9223372036854775807 then (some (((((((((t190 ++ t191) ++ t192) ++ t193) ++ t194) ++ t195) ++ t196) ++ t197) ++ t198) ++ t199)) else (none))) else (none))) else (none))) else (none))) else (none)) = some r := H
 have A11 := qas A110
 clear A110
 by_cases c12 : ((((t190 ++ t191) ++ t192) ++ t193) ++ t194).size + t195.size ≤ 9223372036854775807
 rotate_left
 ·rw [if_neg c12] at H
  exact absurd H (by simp)
 rw [if_pos c12] at H
 have c12b0 := eq_true c12
 have c12b1 : decide (((((t190 ++ t191) ++ t192) ++ t193) ++ t194).size + t195.size ≤ 9223372036854775807) = true := decide_eq_true c12
 try have c12b2 : (9223372036854775807 < ((((t190 ++ t191) ++ t192) ++ t193) ++ t194).size + t195.size) = False := eq_false (Nat.not_lt.2 c12)
 have c12b9 : (9223372036854775807 < ((((t190 ++ t191) ++ t192) ++ t193) ++ t194).size + t195.size) = False := eq_false (Nat.not_lt.2 c12)
 (first | (simp only [ByteArray.size_append] at c12b9) | (try simp only [ByteArray.size_append] at c12b9))
 replace H := Option.bind_eq_some_iff.mp H
 obtain ⟨t196, A130, H⟩ := H
 replace H : (if (((((t190 ++ t191) ++ t192) ++ t193) ++ t194) ++ t195).size + t196.size ≤ 9223372036854775807 then ((pr_Bytes.f k a0_7 4).bind fun t197 => (if ((((((t190 ++ t191) ++ t192) ++ t193) ++ t194) ++ t195) ++ t196).size + t197.size ≤ 9223372036854775807 then ((pr_Bytes.f k (a0_0.size : Int) 2).bind fun t198 => (if (((((((t190 ++ t191) ++ t192) ++ t193) ++ t194) ++ t195) ++ t196) ++ t197).size + t198.size ≤ 9223372036854775807 then ((pr_Bytes.f k 26 2).bind fun t199 => (if ((((((((t190 ++ t191) ++ t192) ++ t193) ++ t194) ++ t195) ++ t196) ++ t197) ++ t198).size + t199.size ≤ 9223372036854775807 then (some (((((((((t190 ++ t191) ++ t192) ++ t193) ++ t194) ++ t195) ++ t196) ++ t197) ++ t198) ++ t199)) else (none))) else (none))) else (none))) else (none)) = some r := H
 have A13 := qas A130
 clear A130
 by_cases c14 : (((((t190 ++ t191) ++ t192) ++ t193) ++ t194) ++ t195).size + t196.size ≤ 9223372036854775807
 rotate_left
 ·rw [if_neg c14] at H
  exact absurd H (by simp)
 rw [if_pos c14] at H
 have c14b0 := eq_true c14
 have c14b1 : decide ((((((t190 ++ t191) ++ t192) ++ t193) ++ t194) ++ t195).size + t196.size ≤ 9223372036854775807) = true := decide_eq_true c14
 try have c14b2 : (9223372036854775807 < (((((t190 ++ t191) ++ t192) ++ t193) ++ t194) ++ t195).size + t196.size) = False := eq_false (Nat.not_lt.2 c14)
 have c14b9 : (9223372036854775807 < (((((t190 ++ t191) ++ t192) ++ t193) ++ t194) ++ t195).size + t196.size) = False := eq_false (Nat.not_lt.2 c14)
 (first | (simp only [ByteArray.size_append] at c14b9) | (try simp only [ByteArray.size_append] at c14b9))
 replace H := Option.bind_eq_some_iff.mp H
 obtain ⟨t197, A150, H⟩ := H
 replace H : (if ((((((t190 ++ t191) ++ t192) ++ t193) ++ t194) ++ t195) ++ t196).size + t197.size ≤ 9223372036854775807 then ((pr_Bytes.f k (a0_0.size : Int) 2).bind fun t198 => (if (((((((t190 ++ t191) ++ t192) ++ t193) ++ t194) ++ t195) ++ t196) ++ t197).size + t198.size ≤ 9223372036854775807 then ((pr_Bytes.f k 26 2).bind fun t199 => (if ((((((((t190 ++ t191) ++ t192) ++ t193) ++ t194) ++ t195) ++ t196) ++ t197) ++ t198).size + t199.size ≤ 9223372036854775807 then (some (((((((((t190 ++ t191) ++ t192) ++ t193) ++ t194) ++ t195) ++ t196) ++ t197) ++ t198) ++ t199)) else (none))) else (none))) else (none)) = some r := H
 have A15 := qas A150
 clear A150
 by_cases c16 : ((((((t190 ++ t191) ++ t192) ++ t193) ++ t194) ++ t195) ++ t196).size + t197.size ≤ 9223372036854775807
 rotate_left
 ·rw [if_neg c16] at H
  exact absurd H (by simp)
 rw [if_pos c16] at H
 have c16b0 := eq_true c16
 have c16b1 : decide (((((((t190 ++ t191) ++ t192) ++ t193) ++ t194) ++ t195) ++ t196).size + t197.size ≤ 9223372036854775807) = true := decide_eq_true c16
 try have c16b2 : (9223372036854775807 < ((((((t190 ++ t191) ++ t192) ++ t193) ++ t194) ++ t195) ++ t196).size + t197.size) = False := eq_false (Nat.not_lt.2 c16)
 have c16b9 : (9223372036854775807 < ((((((t190 ++ t191) ++ t192) ++ t193) ++ t194) ++ t195) ++ t196).size + t197.size) = False := eq_false (Nat.not_lt.2 c16)
 (first | (simp only [ByteArray.size_append] at c16b9) | (try simp only [ByteArray.size_append] at c16b9))
 replace H := Option.bind_eq_some_iff.mp H
 obtain ⟨t198, A170, H⟩ := H
 replace H : (if (((((((t190 ++ t191) ++ t192) ++ t193) ++ t194) ++ t195) ++ t196) ++ t197).size + t198.size ≤ 9223372036854775807 then ((pr_Bytes.f k 26 2).bind fun t199 => (if ((((((((t190 ++ t191) ++ t192) ++ t193) ++ t194) ++ t195) ++ t196) ++ t197) ++ t198).size + t199.size ≤ 9223372036854775807 then (some (((((((((t190 ++ t191) ++ t192) ++ t193) ++ t194) ++ t195) ++ t196) ++ t197) ++ t198) ++ t199)) else (none))) else (none)) = some r := H
 have A17 := qas A170
 clear A170
 by_cases c18 : (((((((t190 ++ t191) ++ t192) ++ t193) ++ t194) ++ t195) ++ t196) ++ t197).size + t198.size ≤ 9223372036854775807
 rotate_left
 ·rw [if_neg c18] at H
  exact absurd H (by simp)
 rw [if_pos c18] at H
 have c18b0 := eq_true c18
 have c18b1 : decide ((((((((t190 ++ t191) ++ t192) ++ t193) ++ t194) ++ t195) ++ t196) ++ t197).size + t198.size ≤ 9223372036854775807) = true := decide_eq_true c18
 try have c18b2 : (9223372036854775807 < (((((((t190 ++ t191) ++ t192) ++ t193) ++ t194) ++ t195) ++ t196) ++ t197).size + t198.size) = False := eq_false (Nat.not_lt.2 c18)
 have c18b9 : (9223372036854775807 < (((((((t190 ++ t191) ++ t192) ++ t193) ++ t194) ++ t195) ++ t196) ++ t197).size + t198.size) = False := eq_false (Nat.not_lt.2 c18)
 (first | (simp only [ByteArray.size_append] at c18b9) | (try simp only [ByteArray.size_append] at c18b9))
 replace H := Option.bind_eq_some_iff.mp H
 obtain ⟨t199, A190, H⟩ := H
 replace H : (if ((((((((t190 ++ t191) ++ t192) ++ t193) ++ t194) ++ t195) ++ t196) ++ t197) ++ t198).size + t199.size ≤ 9223372036854775807 then (some (((((((((t190 ++ t191) ++ t192) ++ t193) ++ t194) ++ t195) ++ t196) ++ t197) ++ t198) ++ t199)) else (none)) = some r := H
 have A19 := qas A190
 clear A190
 by_cases c20 : ((((((((t190 ++ t191) ++ t192) ++ t193) ++ t194) ++ t195) ++ t196) ++ t197) ++ t198).size + t199.size ≤ 9223372036854775807
 rotate_left
 ·rw [if_neg c20] at H
  exact absurd H (by simp)
 rw [if_pos c20] at H
 have c20b0 := eq_true c20
 have c20b1 : decide (((((((((t190 ++ t191) ++ t192) ++ t193) ++ t194) ++ t195) ++ t196) ++ t197) ++ t198).size + t199.size ≤ 9223372036854775807) = true := decide_eq_true c20
 try have c20b2 : (9223372036854775807 < ((((((((t190 ++ t191) ++ t192) ++ t193) ++ t194) ++ t195) ++ t196) ++ t197) ++ t198).size + t199.size) = False := eq_false (Nat.not_lt.2 c20)
 have c20b9 : (9223372036854775807 < ((((((((t190 ++ t191) ++ t192) ++ t193) ++ t194) ++ t195) ++ t196) ++ t197) ++ t198).size + t199.size) = False := eq_false (Nat.not_lt.2 c20)
 (first | (simp only [ByteArray.size_append] at c20b9) | (try simp only [ByteArray.size_append] at c20b9))
 obtain rfl := Option.some.inj H
 go_enter Tryd.func54, Tryd.ntmps54
 try go_wp2_with (first | ((with_reducible refine gate_dst (N := 1) rfl ?_); refine box_event ?hg (N := 1) ?hd (cs := #[.string a0_0, .bool a0_1, .slice A0_2 l0_2.length c0_2, .int .i64 a0_3, .int .i64 a0_4, .int .i64 a0_5, .string a0_6, .int .i64 a0_7, .int .i64 a0_8]) (t := 39) ?hr ?_; (case hd => rfl); (case hg => rfl); (case hr => first | (go_simp; done) | (go_simp; rfl)); intro gb189 hg w21 hbox hb; have n0_ := qas (below_step (by repeat (first | (with_reducible first | exact HB.out | apply qbA | apply qbB | apply qbC) | exact HB.out)) hb); have n1_ := qas (hbox); have n2_ := qas ((by rw [hg]; exact (below_size (by repeat (first | (with_reducible first | exact HB.out | apply qbA | apply qbB | apply qbC) | exact HB.out))) : w.heap.size ≤ gb189)); have n3_ := qas ((by rw [hg]; exact (below_size (by repeat (first | (with_reducible first | exact HB.out | apply qbA | apply qbB | apply qbC) | exact HB.out))) : w.heap.size ≤ gb189)); clear HB; have HB := n0_; have BK189 := n1_; have GW189 := n2_; have GE189 := n3_; clear n0_ n1_ n2_ n3_; clear hb hbox hg))
 have n0_ := qas (qkB BK189.out)
 have n1_ := qas (qbC HB.out)
 clear BK189
 clear HB
 have BK189 := n0_
 have HB := n1_
 clear n0_ n1_
 refine start_ (n := 32) (S := fun w' => w'.cell? ⟨gb189, 0, none⟩ = some (.string a0_0) ∧ w'.cell? ⟨gb189, 1, none⟩ = some (.bool a0_1) ∧ w'.cell? ⟨gb189, 2, none⟩ = some (.slice A0_2 l0_2.length c0_2) ∧ w'.cell? ⟨gb189, 3, none⟩ = some (.int .i64 a0_3) ∧ w'.cell? ⟨gb189, 4, none⟩ = some (.int .i64 a0_4) ∧ w'.cell? ⟨gb189, 5, none⟩ = some (.int .i64 a0_5) ∧ w'.cell? ⟨gb189, 6, none⟩ = some (.string a0_6) ∧ w'.cell? ⟨gb189, 7, none⟩ = some (.int .i64 a0_7) ∧ w'.cell? ⟨gb189, 8, none⟩ = some (.int .i64 a0_8)) (ds := []) #[qf, qf, qf, qf, qf, qf, qf, qf, qf, qf, qf, qf, qf, qf, qf, qf, qf, qf, qf, qf, qf, qf, qf, qf, qf, qf, qf, qf, qf, qf, qf, qf] (by kernel_rfl) rfl rfl ⟨(blk_cell BK189.out 0).trans rfl, (blk_cell BK189.out 1).trans rfl, (blk_cell BK189.out 2).trans rfl, (blk_cell BK189.out 3).trans rfl, (blk_cell BK189.out 4).trans rfl, (blk_cell BK189.out 5).trans rfl, (blk_cell BK189.out 6).trans rfl, (blk_cell BK189.out 7).trans rfl, (blk_cell BK189.out 8).trans rfl⟩ (fun hHeld => ?_); refine with_tabW pr_common.tab1 pr_common.bits1 (fun HT_ HW_ => ?_)
 generalize w21.drew = w22 at BK189 HB hHeld ⊢
 refine pure_ (i := 3) (N := some 6) (v := ?_) (a' := ?_) #[qf, qf, qf, qt, qf, qf, qf, qf, qf, qf, qf, qf, qf, qf, qf, qf, qf, qf, qf, qf, qf, qf, qf, qf, qf, qf, qf, qf, qf, qf, qf, qf] rfl rfl (any_of HT_.out (by kernel_rfl)) (fun _ _ _ h => h) (Or.inl ⟨by rfl, ?_⟩) ?_ ?_
 rotate_left
 ·intro w'
  go_simp
  with_reducible rfl
 rotate_left
 ·simp only [Act.put, qsA, qsB, qsC, i64_w, i32_w, qsD, qsE]
  rfl
 refine pure_ (i := 11) (N := some 14) (v := ?_) (a' := ?_) #[qf, qf, qf, qt, qf, qf, qf, qf, qf, qf, qf, qt, qf, qf, qf, qf, qf, qf, qf, qf, qf, qf, qf, qf, qf, qf, qf, qf, qf, qf, qf, qf] rfl rfl (any_of HT_.out (by kernel_rfl)) (fun _ _ _ h => h) (Or.inl ⟨by rfl, ?_⟩) ?_ ?_
 rotate_left
 ·intro w'
  go_simp
  with_reducible rfl
 rotate_left
 ·simp only [Act.put, qsA, qsB, qsC, i64_w, i32_w, qsD, qsE]
  rfl
 refine pure_ (i := 15) (N := some 18) (v := ?_) (a' := ?_) #[qf, qf, qf, qt, qf, qf, qf, qf, qf, qf, qf, qt, qf, qf, qf, qt, qf, qf, qf, qf, qf, qf, qf, qf, qf, qf, qf, qf, qf, qf, qf, qf] rfl rfl (any_of HT_.out (by kernel_rfl)) (fun _ _ _ h => h) (Or.inl ⟨by rfl, ?_⟩) ?_ ?_
 rotate_left
 ·intro w'
  go_simp
  with_reducible rfl
 rotate_left
 ·simp only [Act.put, qsA, qsB, qsC, i64_w, i32_w, qsD, qsE]
  rfl
 refine pure_ (i := 20) (N := some 23) (v := ?_) (a' := ?_) #[qf, qf, qf, qt, qf, qf, qf, qf, qf, qf, qf, qt, qf, qf, qf, qt, qf, qf, qf, qf, qt, qf, qf, qf, qf, qf, qf, qf, qf, qf, qf, qf] rfl rfl (any_of HT_.out (by kernel_rfl)) (fun _ _ _ h => h) (Or.inl ⟨by rfl, ?_⟩) ?_ ?_
 rotate_left
 ·intro w'
  go_simp
  with_reducible rfl
 rotate_left
 ·simp only [Act.put, qsA, qsB, qsC, i64_w, i32_w, qsD, qsE]
  rfl
 refine pure_ (i := 24) (N := some 27) (v := ?_) (a' := ?_) #[qf, qf, qf, qt, qf, qf, qf, qf, qf, qf, qf, qt, qf, qf, qf, qt, qf, qf, qf, qf, qt, qf, qf, qf, qt, qf, qf, qf, qf, qf, qf, qf] rfl rfl (any_of HT_.out (by kernel_rfl)) (fun _ _ _ h => h) (Or.inl ⟨by rfl, ?_⟩) ?_ ?_
 rotate_left
 ·intro w'
  go_simp
  with_reducible rfl
 rotate_left
 ·simp only [Act.put, qsA, qsB, qsC, i64_w, i32_w, qsD, qsE]
  rfl
 refine take_ (i := 4) (N := some 7) (v := ?_) (a' := ?_) #[qf, qf, qf, qt, qt, qf, qf, qf, qf, qf, qf, qt, qf, qf, qf, qt, qf, qf, qf, qf, qt, qf, qf, qf, qt, qf, qf, qf, qf, qf, qf, qf] rfl rfl (take_ofW HT_.out HW_.out (by kernel_rfl)) (fun _ _ _ h => h) (Or.inl ⟨by rfl, ?_⟩) hHeld ?_ ?_
 rotate_left
 ·rintro w' ⟨s0, s1, s2, s3, s4, s5, s6, s7, s8⟩
  go_simp
  with_reducible rfl
 rotate_left
 ·simp only [Act.put, qsA, qsB, qsC, i64_w, i32_w, qsD, qsE]
  rfl
 refine take_ (i := 12) (N := some 15) (v := ?_) (a' := ?_) #[qf, qf, qf, qt, qt, qf, qf, qf, qf, qf, qf, qt, qt, qf, qf, qt, qf, qf, qf, qf, qt, qf, qf, qf, qt, qf, qf, qf, qf, qf, qf, qf] rfl rfl (take_ofW HT_.out HW_.out (by kernel_rfl)) (fun _ _ _ h => h) (Or.inl ⟨by rfl, ?_⟩) hHeld ?_ ?_
 rotate_left
 ·rintro w' ⟨s0, s1, s2, s3, s4, s5, s6, s7, s8⟩
  go_simp
  with_reducible rfl
 rotate_left
 ·simp only [Act.put, qsA, qsB, qsC, i64_w, i32_w, qsD, qsE]
  rfl
 refine take_ (i := 16) (N := some 19) (v := ?_) (a' := ?_) #[qf, qf, qf, qt, qt, qf, qf, qf, qf, qf, qf, qt, qt, qf, qf, qt, qt, qf, qf, qf, qt, qf, qf, qf, qt, qf, qf, qf, qf, qf, qf, qf] rfl rfl (take_ofW HT_.out HW_.out (by kernel_rfl)) (fun _ _ _ h => h) (Or.inl ⟨by rfl, ?_⟩) hHeld ?_ ?_
 rotate_left
 ·rintro w' ⟨s0, s1, s2, s3, s4, s5, s6, s7, s8⟩
  go_simp
  with_reducible rfl
 rotate_left
 ·simp only [Act.put, qsA, qsB, qsC, i64_w, i32_w, qsD, qsE]
  rfl
 refine pure_ (i := 17) (N := some 20) (v := ?_) (a' := ?_) #[qf, qf, qf, qt, qt, qf, qf, qf, qf, qf, qf, qt, qt, qf, qf, qt, qt, qt, qf, qf, qt, qf, qf, qf, qt, qf, qf, qf, qf, qf, qf, qf] rfl rfl (any_of HT_.out (by kernel_rfl)) (fun _ _ _ h => h) (Or.inl ⟨by rfl, ?_⟩) ?_ ?_
 rotate_left
 ·intro w'
  go_simp
  with_reducible rfl
 rotate_left
 ·simp only [Act.put, qsA, qsB, qsC, i64_w, i32_w, qsD, qsE]
  rfl
 refine take_ (i := 21) (N := some 24) (v := ?_) (a' := ?_) #[qf, qf, qf, qt, qt, qf, qf, qf, qf, qf, qf, qt, qt, qf, qf, qt, qt, qt, qf, qf, qt, qt, qf, qf, qt, qf, qf, qf, qf, qf, qf, qf] rfl rfl (take_ofW HT_.out HW_.out (by kernel_rfl)) (fun _ _ _ h => h) (Or.inl ⟨by rfl, ?_⟩) hHeld ?_ ?_
 rotate_left
 ·rintro w' ⟨s0, s1, s2, s3, s4, s5, s6, s7, s8⟩
  go_simp
  with_reducible rfl
 rotate_left
 ·simp only [Act.put, qsA, qsB, qsC, i64_w, i32_w, qsD, qsE]
  rfl
 refine take_ (i := 25) (N := some 28) (v := ?_) (a' := ?_) #[qf, qf, qf, qt, qt, qf, qf, qf, qf, qf, qf, qt, qt, qf, qf, qt, qt, qt, qf, qf, qt, qt, qf, qf, qt, qt, qf, qf, qf, qf, qf, qf] rfl rfl (take_ofW HT_.out HW_.out (by kernel_rfl)) (fun _ _ _ h => h) (Or.inl ⟨by rfl, ?_⟩) hHeld ?_ ?_
 rotate_left
 ·rintro w' ⟨s0, s1, s2, s3, s4, s5, s6, s7, s8⟩
  go_simp
  with_reducible rfl
 rotate_left
 ·simp only [Act.put, qsA, qsB, qsC, i64_w, i32_w, qsD, qsE]
  rfl
 refine pure_ (i := 26) (N := some 29) (v := ?_) (a' := ?_) #[qf, qf, qf, qt, qt, qf, qf, qf, qf, qf, qf, qt, qt, qf, qf, qt, qt, qt, qf, qf, qt, qt, qf, qf, qt, qt, qt, qf, qf, qf, qf, qf] rfl rfl (any_of HT_.out (by kernel_rfl)) (fun _ _ _ h => h) (Or.inl ⟨by rfl, ?_⟩) ?_ ?_
 rotate_left
 ·intro w'
  go_simp
  with_reducible rfl
 rotate_left
 ·simp only [Act.put, qsA, qsB, qsC, i64_w, i32_w, qsD, qsE]
  rfl
 refine one_ (i := 0) (N := some 3) #[qt, qf, qf, qt, qt, qf, qf, qf, qf, qf, qf, qt, qt, qf, qf, qt, qt, qt, qf, qf, qt, qt, qf, qf, qt, qt, qt, qf, qf, qf, qf, qf] rfl rfl (one_of HT_.out (by kernel_rfl)) (by decide) (fun K hK => ?_)
 refine goes_ Tryd.func53 (by kernel_rfl) rfl #[.int .i64 20, .int .i64 2] (by rfl) rfl rfl (by (try simp only [List.map_toArray, List.map_cons, List.map_nil]); first | done | rfl | (simp only [List.length_drop, List.length_take]; rfl)) ?_
 with_reducible refine (pr_Bytes.calls k 20 2 t190 _ A2.out).mono ?_
 rintro e w23 ⟨rfl, hb⟩
 refine ⟨_, rfl, ?_⟩
 have n0_ := qas (blk_below (g := gb189) (o := .cells #[.string a0_0, .bool a0_1, .slice A0_2 l0_2.length c0_2, .int .i64 a0_3, .int .i64 a0_4, .int .i64 a0_5, .string a0_6, .int .i64 a0_7, .int .i64 a0_8] 39 (0, 0)) (by (with_reducible repeat (first | refine qkA ?_ _ | refine qkB ?_ | refine qkC ?_ _)); exact BK189.out) hb)
 have n1_ := qas (below_step (by repeat (first | (with_reducible first | exact HB.out | apply qbA | apply qbB | apply qbC | refine below_set ?_ GE189.out) | exact HB.out)) hb)
 clear BK189
 clear HB
 have BK189 := n0_
 have HB := n1_
 clear n0_ n1_
 (try clear hb)
 (try clear hb2)
 (try clear hk)
 (try clear hi)
 refine hK.out _ _ ⟨(blk_cell BK189.out 0).trans rfl, (blk_cell BK189.out 1).trans rfl, (blk_cell BK189.out 2).trans rfl, (blk_cell BK189.out 3).trans rfl, (blk_cell BK189.out 4).trans rfl, (blk_cell BK189.out 5).trans rfl, (blk_cell BK189.out 6).trans rfl, (blk_cell BK189.out 7).trans rfl, (blk_cell BK189.out 8).trans rfl⟩ (fun hHeld => ?_)
 clear hK K
 refine norm_ (a' := ?_) ?_ ?_
 rotate_left
 ·show Act.put _ (some 3) _ = _
  simp only [Act.put, qsA, qsB, qsC, i64_w, i32_w, qsD, qsE]
  rfl
 refine one_ (i := 1) (N := some 4) #[qt, qt, qf, qt, qt, qf, qf, qf, qf, qf, qf, qt, qt, qf, qf, qt, qt, qt, qf, qf, qt, qt, qf, qf, qt, qt, qt, qf, qf, qf, qf, qf] rfl rfl (one_of HT_.out (by kernel_rfl)) (by decide) (fun K hK => ?_)
 refine goes_ Tryd.func53 (by kernel_rfl) rfl #[.int .i64 0, .int .i64 2] (by rfl) rfl rfl (by (try simp only [List.map_toArray, List.map_cons, List.map_nil]); first | done | rfl | (simp only [List.length_drop, List.length_take]; rfl)) ?_
 with_reducible refine (pr_Bytes.calls k 0 2 t191 _ A3.out).mono ?_
 rintro e w24 ⟨rfl, hb⟩
 refine ⟨_, rfl, ?_⟩
 have n0_ := qas (blk_below (g := gb189) (o := .cells #[.string a0_0, .bool a0_1, .slice A0_2 l0_2.length c0_2, .int .i64 a0_3, .int .i64 a0_4, .int .i64 a0_5, .string a0_6, .int .i64 a0_7, .int .i64 a0_8] 39 (0, 0)) (by (with_reducible repeat (first | refine qkA ?_ _ | refine qkB ?_ | refine qkC ?_ _)); exact BK189.out) hb)
 have n1_ := qas (below_step (by repeat (first | (with_reducible first | exact HB.out | apply qbA | apply qbB | apply qbC | refine below_set ?_ GE189.out) | exact HB.out)) hb)
 clear BK189
 clear HB
 have BK189 := n0_
 have HB := n1_
 clear n0_ n1_
 (try clear hb)
 (try clear hb2)
 (try clear hk)
 (try clear hi)
 refine hK.out _ _ ⟨(blk_cell BK189.out 0).trans rfl, (blk_cell BK189.out 1).trans rfl, (blk_cell BK189.out 2).trans rfl, (blk_cell BK189.out 3).trans rfl, (blk_cell BK189.out 4).trans rfl, (blk_cell BK189.out 5).trans rfl, (blk_cell BK189.out 6).trans rfl, (blk_cell BK189.out 7).trans rfl, (blk_cell BK189.out 8).trans rfl⟩ (fun hHeld => ?_)
 clear hK K
 refine norm_ (a' := ?_) ?_ ?_
 rotate_left
 ·show Act.put _ (some 4) _ = _
  simp only [Act.put, qsA, qsB, qsC, i64_w, i32_w, qsD, qsE]
  rfl
 refine pure_ (i := 2) (N := some 5) (v := ?_) (a' := ?_) #[qt, qt, qt, qt, qt, qf, qf, qf, qf, qf, qf, qt, qt, qf, qf, qt, qt, qt, qf, qf, qt, qt, qf, qf, qt, qt, qt, qf, qf, qf, qf, qf] rfl rfl (any_of HT_.out (by kernel_rfl)) (fun _ _ _ h => h) (Or.inl ⟨by rfl, ?_⟩) ?_ ?_
 rotate_left
 ·intro w'
  go_simp
  with_reducible rfl
 rotate_left
 ·simp only [Act.put, qsA, qsB, qsC, i64_w, i32_w, qsD, qsE]
  rfl
 refine one_ (i := 5) (N := some 8) #[qt, qt, qt, qt, qt, qt, qf, qf, qf, qf, qf, qt, qt, qf, qf, qt, qt, qt, qf, qf, qt, qt, qf, qf, qt, qt, qt, qf, qf, qf, qf, qf] rfl rfl (one_of HT_.out (by kernel_rfl)) (by decide) (fun K hK => ?_)
 refine goes_ Tryd.func53 (by kernel_rfl) rfl #[.int .i64 a0_5, .int .i64 2] (by rfl) rfl rfl (by (try simp only [List.map_toArray, List.map_cons, List.map_nil]); first | done | rfl | (simp only [List.length_drop, List.length_take]; rfl)) ?_
 with_reducible refine (pr_Bytes.calls k a0_5 2 t192 _ A5.out).mono ?_
 rintro e w25 ⟨rfl, hb⟩
 refine ⟨_, rfl, ?_⟩
 have n0_ := qas (blk_below (g := gb189) (o := .cells #[.string a0_0, .bool a0_1, .slice A0_2 l0_2.length c0_2, .int .i64 a0_3, .int .i64 a0_4, .int .i64 a0_5, .string a0_6, .int .i64 a0_7, .int .i64 a0_8] 39 (0, 0)) (by (with_reducible repeat (first | refine qkA ?_ _ | refine qkB ?_ | refine qkC ?_ _)); exact BK189.out) hb)
 have n1_ := qas (below_step (by repeat (first | (with_reducible first | exact HB.out | apply qbA | apply qbB | apply qbC | refine below_set ?_ GE189.out) | exact HB.out)) hb)
 clear BK189
 clear HB
 have BK189 := n0_
 have HB := n1_
 clear n0_ n1_
 (try clear hb)
 (try clear hb2)
 (try clear hk)
 (try clear hi)
 refine hK.out _ _ ⟨(blk_cell BK189.out 0).trans rfl, (blk_cell BK189.out 1).trans rfl, (blk_cell BK189.out 2).trans rfl, (blk_cell BK189.out 3).trans rfl, (blk_cell BK189.out 4).trans rfl, (blk_cell BK189.out 5).trans rfl, (blk_cell BK189.out 6).trans rfl, (blk_cell BK189.out 7).trans rfl, (blk_cell BK189.out 8).trans rfl⟩ (fun hHeld => ?_)
 clear hK K
 refine norm_ (a' := ?_) ?_ ?_
 rotate_left
 ·show Act.put _ (some 8) _ = _
  simp only [Act.put, qsA, qsB, qsC, i64_w, i32_w, qsD, qsE]
  rfl
 refine pure_ (i := 6) (N := some 9) (v := ?_) (a' := ?_) #[qt, qt, qt, qt, qt, qt, qt, qf, qf, qf, qf, qt, qt, qf, qf, qt, qt, qt, qf, qf, qt, qt, qf, qf, qt, qt, qt, qf, qf, qf, qf, qf] rfl rfl (any_of HT_.out (by kernel_rfl)) (fun _ _ _ h => h) (Or.inl ⟨by rfl, ?_⟩) ?_ ?_
 rotate_left
 ·intro w'
  go_simp
  with_reducible rfl
 rotate_left
 ·simp only [Act.put, qsA, qsB, qsC, i64_w, i32_w, qsD, qsE]
  rfl
 refine one_ (i := 7) (N := some 10) #[qt, qt, qt, qt, qt, qt, qt, qt, qf, qf, qf, qt, qt, qf, qf, qt, qt, qt, qf, qf, qt, qt, qf, qf, qt, qt, qt, qf, qf, qf, qf, qf] rfl rfl (one_of HT_.out (by kernel_rfl)) (by decide) (fun K hK => ?_)
 refine goes_ Tryd.func53 (by kernel_rfl) rfl #[.int .i64 0, .int .i64 2] (by rfl) rfl rfl (by (try simp only [List.map_toArray, List.map_cons, List.map_nil]); first | done | rfl | (simp only [List.length_drop, List.length_take]; rfl)) ?_
 with_reducible refine (pr_Bytes.calls k 0 2 t193 _ A7.out).mono ?_
 rintro e w26 ⟨rfl, hb⟩
 refine ⟨_, rfl, ?_⟩
 have n0_ := qas (blk_below (g := gb189) (o := .cells #[.string a0_0, .bool a0_1, .slice A0_2 l0_2.length c0_2, .int .i64 a0_3, .int .i64 a0_4, .int .i64 a0_5, .string a0_6, .int .i64 a0_7, .int .i64 a0_8] 39 (0, 0)) (by (with_reducible repeat (first | refine qkA ?_ _ | refine qkB ?_ | refine qkC ?_ _)); exact BK189.out) hb)
 have n1_ := qas (below_step (by repeat (first | (with_reducible first | exact HB.out | apply qbA | apply qbB | apply qbC | refine below_set ?_ GE189.out) | exact HB.out)) hb)
 clear BK189
 clear HB
 have BK189 := n0_
 have HB := n1_
 clear n0_ n1_
 (try clear hb)
 (try clear hb2)
 (try clear hk)
 (try clear hi)
 refine hK.out _ _ ⟨(blk_cell BK189.out 0).trans rfl, (blk_cell BK189.out 1).trans rfl, (blk_cell BK189.out 2).trans rfl, (blk_cell BK189.out 3).trans rfl, (blk_cell BK189.out 4).trans rfl, (blk_cell BK189.out 5).trans rfl, (blk_cell BK189.out 6).trans rfl, (blk_cell BK189.out 7).trans rfl, (blk_cell BK189.out 8).trans rfl⟩ (fun hHeld => ?_)
 clear hK K
 refine norm_ (a' := ?_) ?_ ?_
 rotate_left
 ·show Act.put _ (some 10) _ = _
  simp only [Act.put, qsA, qsB, qsC, i64_w, i32_w, qsD, qsE]
  rfl
 refine pure_ (i := 8) (N := some 11) (v := ?_) (a' := ?_) #[qt, qt, qt, qt, qt, qt, qt, qt, qt, qf, qf, qt, qt, qf, qf, qt, qt, qt, qf, qf, qt, qt, qf, qf, qt, qt, qt, qf, qf, qf, qf, qf] rfl rfl (any_of HT_.out (by kernel_rfl)) (fun _ _ _ h => h) (Or.inl ⟨by rfl, ?_⟩) ?_ ?_
 rotate_left
 ·intro w'
  go_simp
  with_reducible rfl
 rotate_left
 ·simp only [Act.put, qsA, qsB, qsC, i64_w, i32_w, qsD, qsE]
  rfl
 refine one_ (i := 9) (N := some 12) #[qt, qt, qt, qt, qt, qt, qt, qt, qt, qt, qf, qt, qt, qf, qf, qt, qt, qt, qf, qf, qt, qt, qf, qf, qt, qt, qt, qf, qf, qf, qf, qf] rfl rfl (one_of HT_.out (by kernel_rfl)) (by decide) (fun K hK => ?_)
 refine goes_ Tryd.func53 (by kernel_rfl) rfl #[.int .i64 0, .int .i64 2] (by rfl) rfl rfl (by (try simp only [List.map_toArray, List.map_cons, List.map_nil]); first | done | rfl | (simp only [List.length_drop, List.length_take]; rfl)) ?_
 with_reducible refine (pr_Bytes.calls k 0 2 t194 _ A9.out).mono ?_
 rintro e w27 ⟨rfl, hb⟩
 refine ⟨_, rfl, ?_⟩
 have n0_ := qas (blk_below (g := gb189) (o := .cells #[.string a0_0, .bool a0_1, .slice A0_2 l0_2.length c0_2, .int .i64 a0_3, .int .i64 a0_4, .int .i64 a0_5, .string a0_6, .int .i64 a0_7, .int .i64 a0_8] 39 (0, 0)) (by (with_reducible repeat (first | refine qkA ?_ _ | refine qkB ?_ | refine qkC ?_ _)); exact BK189.out) hb)
 have n1_ := qas (below_step (by repeat (first | (with_reducible first | exact HB.out | apply qbA | apply qbB | apply qbC | refine below_set ?_ GE189.out) | exact HB.out)) hb)
 clear BK189
 clear HB
 have BK189 := n0_
 have HB := n1_
 clear n0_ n1_
 (try clear hb)
 (try clear hb2)
 (try clear hk)
 (try clear hi)
 refine hK.out _ _ ⟨(blk_cell BK189.out 0).trans rfl, (blk_cell BK189.out 1).trans rfl, (blk_cell BK189.out 2).trans rfl, (blk_cell BK189.out 3).trans rfl, (blk_cell BK189.out 4).trans rfl, (blk_cell BK189.out 5).trans rfl, (blk_cell BK189.out 6).trans rfl, (blk_cell BK189.out 7).trans rfl, (blk_cell BK189.out 8).trans rfl⟩ (fun hHeld => ?_)
 clear hK K
 refine norm_ (a' := ?_) ?_ ?_
 rotate_left
 ·show Act.put _ (some 12) _ = _
  simp only [Act.put, qsA, qsB, qsC, i64_w, i32_w, qsD, qsE]
  rfl
 refine pure_ (i := 10) (N := some 13) (v := ?_) (a' := ?_) #[qt, qt, qt, qt, qt, qt, qt, qt, qt, qt, qt, qt, qt, qf, qf, qt, qt, qt, qf, qf, qt, qt, qf, qf, qt, qt, qt, qf, qf, qf, qf, qf] rfl rfl (any_of HT_.out (by kernel_rfl)) (fun _ _ _ h => h) (Or.inl ⟨by rfl, ?_⟩) ?_ ?_
 rotate_left
 ·intro w'
  go_simp
  with_reducible rfl
 rotate_left
 ·simp only [Act.put, qsA, qsB, qsC, i64_w, i32_w, qsD, qsE]
  rfl
 refine one_ (i := 13) (N := some 16) #[qt, qt, qt, qt, qt, qt, qt, qt, qt, qt, qt, qt, qt, qt, qf, qt, qt, qt, qf, qf, qt, qt, qf, qf, qt, qt, qt, qf, qf, qf, qf, qf] rfl rfl (one_of HT_.out (by kernel_rfl)) (by decide) (fun K hK => ?_)
 refine goes_ Tryd.func53 (by kernel_rfl) rfl #[.int .i64 a0_8, .int .i64 4] (by rfl) rfl rfl (by (try simp only [List.map_toArray, List.map_cons, List.map_nil]); first | done | rfl | (simp only [List.length_drop, List.length_take]; rfl)) ?_
 with_reducible refine (pr_Bytes.calls k a0_8 4 t195 _ A11.out).mono ?_
 rintro e w28 ⟨rfl, hb⟩
 refine ⟨_, rfl, ?_⟩
 have n0_ := qas (blk_below (g := gb189) (o := .cells #[.string a0_0, .bool a0_1, .slice A0_2 l0_2.length c0_2, .int .i64 a0_3, .int .i64 a0_4, .int .i64 a0_5, .string a0_6, .int .i64 a0_7, .int .i64 a0_8] 39 (0, 0)) (by (with_reducible repeat (first | refine qkA ?_ _ | refine qkB ?_ | refine qkC ?_ _)); exact BK189.out) hb)
 have n1_ := qas (below_step (by repeat (first | (with_reducible first | exact HB.out | apply qbA | apply qbB | apply qbC | refine below_set ?_ GE189.out) | exact HB.out)) hb)
 clear BK189
 clear HB
 have BK189 := n0_
 have HB := n1_
 clear n0_ n1_
 (try clear hb)
 (try clear hb2)
 (try clear hk)
 (try clear hi)
 refine hK.out _ _ ⟨(blk_cell BK189.out 0).trans rfl, (blk_cell BK189.out 1).trans rfl, (blk_cell BK189.out 2).trans rfl, (blk_cell BK189.out 3).trans rfl, (blk_cell BK189.out 4).trans rfl, (blk_cell BK189.out 5).trans rfl, (blk_cell BK189.out 6).trans rfl, (blk_cell BK189.out 7).trans rfl, (blk_cell BK189.out 8).trans rfl⟩ (fun hHeld => ?_)
 clear hK K
 refine norm_ (a' := ?_) ?_ ?_
 rotate_left
 ·show Act.put _ (some 16) _ = _
  simp only [Act.put, qsA, qsB, qsC, i64_w, i32_w, qsD, qsE]
  rfl
 refine pure_ (i := 14) (N := some 17) (v := ?_) (a' := ?_) #[qt, qt, qt, qt, qt, qt, qt, qt, qt, qt, qt, qt, qt, qt, qt, qt, qt, qt, qf, qf, qt, qt, qf, qf, qt, qt, qt, qf, qf, qf, qf, qf] rfl rfl (any_of HT_.out (by kernel_rfl)) (fun _ _ _ h => h) (Or.inl ⟨by rfl, ?_⟩) ?_ ?_
 rotate_left
 ·intro w'
  go_simp
  with_reducible rfl
 rotate_left
 ·simp only [Act.put, qsA, qsB, qsC, i64_w, i32_w, qsD, qsE]
  rfl
 refine one_ (i := 18) (N := some 21) #[qt, qt, qt, qt, qt, qt, qt, qt, qt, qt, qt, qt, qt, qt, qt, qt, qt, qt, qt, qf, qt, qt, qf, qf, qt, qt, qt, qf, qf, qf, qf, qf] rfl rfl (one_of HT_.out (by kernel_rfl)) (by decide) (fun K hK => ?_)
 refine goes_ Tryd.func53 (by kernel_rfl) rfl #[.int .i64 (a0_6.size : Int), .int .i64 4] (by rfl) rfl rfl (by (try simp only [List.map_toArray, List.map_cons, List.map_nil]); first | done | rfl | (simp only [List.length_drop, List.length_take]; rfl)) ?_
 with_reducible refine (pr_Bytes.calls k (a0_6.size : Int) 4 t196 _ A13.out).mono ?_
 rintro e w29 ⟨rfl, hb⟩
 refine ⟨_, rfl, ?_⟩
 have n0_ := qas (blk_below (g := gb189) (o := .cells #[.string a0_0, .bool a0_1, .slice A0_2 l0_2.length c0_2, .int .i64 a0_3, .int .i64 a0_4, .int .i64 a0_5, .string a0_6, .int .i64 a0_7, .int .i64 a0_8] 39 (0, 0)) (by (with_reducible repeat (first | refine qkA ?_ _ | refine qkB ?_ | refine qkC ?_ _)); exact BK189.out) hb)
 have n1_ := qas (below_step (by repeat (first | (with_reducible first | exact HB.out | apply qbA | apply qbB | apply qbC | refine below_set ?_ GE189.out) | exact HB.out)) hb)
 clear BK189
 clear HB
 have BK189 := n0_
 have HB := n1_
 clear n0_ n1_
 (try clear hb)
 (try clear hb2)
 (try clear hk)
 (try clear hi)
 refine hK.out _ _ ⟨(blk_cell BK189.out 0).trans rfl, (blk_cell BK189.out 1).trans rfl, (blk_cell BK189.out 2).trans rfl, (blk_cell BK189.out 3).trans rfl, (blk_cell BK189.out 4).trans rfl, (blk_cell BK189.out 5).trans rfl, (blk_cell BK189.out 6).trans rfl, (blk_cell BK189.out 7).trans rfl, (blk_cell BK189.out 8).trans rfl⟩ (fun hHeld => ?_)
 clear hK K
 refine norm_ (a' := ?_) ?_ ?_
 rotate_left
 ·show Act.put _ (some 21) _ = _
  simp only [Act.put, qsA, qsB, qsC, i64_w, i32_w, qsD, qsE]
  rfl
 refine pure_ (i := 19) (N := some 22) (v := ?_) (a' := ?_) #[qt, qt, qt, qt, qt, qt, qt, qt, qt, qt, qt, qt, qt, qt, qt, qt, qt, qt, qt, qt, qt, qt, qf, qf, qt, qt, qt, qf, qf, qf, qf, qf] rfl rfl (any_of HT_.out (by kernel_rfl)) (fun _ _ _ h => h) (Or.inl ⟨by rfl, ?_⟩) ?_ ?_
 rotate_left
 ·intro w'
  go_simp
  with_reducible rfl
 rotate_left
 ·simp only [Act.put, qsA, qsB, qsC, i64_w, i32_w, qsD, qsE]
  rfl
 refine one_ (i := 22) (N := some 25) #[qt, qt, qt, qt, qt, qt, qt, qt, qt, qt, qt, qt, qt, qt, qt, qt, qt, qt, qt, qt, qt, qt, qt, qf, qt, qt, qt, qf, qf, qf, qf, qf] rfl rfl (one_of HT_.out (by kernel_rfl)) (by decide) (fun K hK => ?_)
 refine goes_ Tryd.func53 (by kernel_rfl) rfl #[.int .i64 a0_7, .int .i64 4] (by rfl) rfl rfl (by (try simp only [List.map_toArray, List.map_cons, List.map_nil]); first | done | rfl | (simp only [List.length_drop, List.length_take]; rfl)) ?_
 with_reducible refine (pr_Bytes.calls k a0_7 4 t197 _ A15.out).mono ?_
 rintro e w30 ⟨rfl, hb⟩
 refine ⟨_, rfl, ?_⟩
 have n0_ := qas (blk_below (g := gb189) (o := .cells #[.string a0_0, .bool a0_1, .slice A0_2 l0_2.length c0_2, .int .i64 a0_3, .int .i64 a0_4, .int .i64 a0_5, .string a0_6, .int .i64 a0_7, .int .i64 a0_8] 39 (0, 0)) (by (with_reducible repeat (first | refine qkA ?_ _ | refine qkB ?_ | refine qkC ?_ _)); exact BK189.out) hb)
 have n1_ := qas (below_step (by repeat (first | (with_reducible first | exact HB.out | apply qbA | apply qbB | apply qbC | refine below_set ?_ GE189.out) | exact HB.out)) hb)
 clear BK189
 clear HB
 have BK189 := n0_
 have HB := n1_
 clear n0_ n1_
 (try clear hb)
 (try clear hb2)
 (try clear hk)
 (try clear hi)
 refine hK.out _ _ ⟨(blk_cell BK189.out 0).trans rfl, (blk_cell BK189.out 1).trans rfl, (blk_cell BK189.out 2).trans rfl, (blk_cell BK189.out 3).trans rfl, (blk_cell BK189.out 4).trans rfl, (blk_cell BK189.out 5).trans rfl, (blk_cell BK189.out 6).trans rfl, (blk_cell BK189.out 7).trans rfl, (blk_cell BK189.out 8).trans rfl⟩ (fun hHeld => ?_)
 clear hK K
 refine norm_ (a' := ?_) ?_ ?_
 rotate_left
 ·show Act.put _ (some 25) _ = _
  simp only [Act.put, qsA, qsB, qsC, i64_w, i32_w, qsD, qsE]
  rfl
 refine pure_ (i := 23) (N := some 26) (v := ?_) (a' := ?_) #[qt, qt, qt, qt, qt, qt, qt, qt, qt, qt, qt, qt, qt, qt, qt, qt, qt, qt, qt, qt, qt, qt, qt, qt, qt, qt, qt, qf, qf, qf, qf, qf] rfl rfl (any_of HT_.out (by kernel_rfl)) (fun _ _ _ h => h) (Or.inl ⟨by rfl, ?_⟩) ?_ ?_
 rotate_left
 ·intro w'
  go_simp
  with_reducible rfl
 rotate_left
 ·simp only [Act.put, qsA, qsB, qsC, i64_w, i32_w, qsD, qsE]
  rfl
 refine one_ (i := 27) (N := some 30) #[qt, qt, qt, qt, qt, qt, qt, qt, qt, qt, qt, qt, qt, qt, qt, qt, qt, qt, qt, qt, qt, qt, qt, qt, qt, qt, qt, qt, qf, qf, qf, qf] rfl rfl (one_of HT_.out (by kernel_rfl)) (by decide) (fun K hK => ?_)
 refine goes_ Tryd.func53 (by kernel_rfl) rfl #[.int .i64 (a0_0.size : Int), .int .i64 2] (by rfl) rfl rfl (by (try simp only [List.map_toArray, List.map_cons, List.map_nil]); first | done | rfl | (simp only [List.length_drop, List.length_take]; rfl)) ?_
 with_reducible refine (pr_Bytes.calls k (a0_0.size : Int) 2 t198 _ A17.out).mono ?_
 rintro e w31 ⟨rfl, hb⟩
 refine ⟨_, rfl, ?_⟩
 have n0_ := qas (blk_below (g := gb189) (o := .cells #[.string a0_0, .bool a0_1, .slice A0_2 l0_2.length c0_2, .int .i64 a0_3, .int .i64 a0_4, .int .i64 a0_5, .string a0_6, .int .i64 a0_7, .int .i64 a0_8] 39 (0, 0)) (by (with_reducible repeat (first | refine qkA ?_ _ | refine qkB ?_ | refine qkC ?_ _)); exact BK189.out) hb)
 have n1_ := qas (below_step (by repeat (first | (with_reducible first | exact HB.out | apply qbA | apply qbB | apply qbC | refine below_set ?_ GE189.out) | exact HB.out)) hb)
 clear BK189
 clear HB
 have BK189 := n0_
 have HB := n1_
 clear n0_ n1_
 (try clear hb)
 (try clear hb2)
 (try clear hk)
 (try clear hi)
 refine hK.out _ _ ⟨(blk_cell BK189.out 0).trans rfl, (blk_cell BK189.out 1).trans rfl, (blk_cell BK189.out 2).trans rfl, (blk_cell BK189.out 3).trans rfl, (blk_cell BK189.out 4).trans rfl, (blk_cell BK189.out 5).trans rfl, (blk_cell BK189.out 6).trans rfl, (blk_cell BK189.out 7).trans rfl, (blk_cell BK189.out 8).trans rfl⟩ (fun hHeld => ?_)
 clear hK K
 refine norm_ (a' := ?_) ?_ ?_
 rotate_left
 ·show Act.put _ (some 30) _ = _
  simp only [Act.put, qsA, qsB, qsC, i64_w, i32_w, qsD, qsE]
  rfl
 refine pure_ (i := 28) (N := some 31) (v := ?_) (a' := ?_) #[qt, qt, qt, qt, qt, qt, qt, qt, qt, qt, qt, qt, qt, qt, qt, qt, qt, qt, qt, qt, qt, qt, qt, qt, qt, qt, qt, qt, qt, qf, qf, qf] rfl rfl (any_of HT_.out (by kernel_rfl)) (fun _ _ _ h => h) (Or.inl ⟨by rfl, ?_⟩) ?_ ?_
 rotate_left
 ·intro w'
  go_simp
  with_reducible rfl
 rotate_left
 ·simp only [Act.put, qsA, qsB, qsC, i64_w, i32_w, qsD, qsE]
  rfl
 refine one_ (i := 29) (N := some 32) #[qt, qt, qt, qt, qt, qt, qt, qt, qt, qt, qt, qt, qt, qt, qt, qt, qt, qt, qt, qt, qt, qt, qt, qt, qt, qt, qt, qt, qt, qt, qf, qf] rfl rfl (one_of HT_.out (by kernel_rfl)) (by decide) (fun K hK => ?_)
 refine goes_ Tryd.func53 (by kernel_rfl) rfl #[.int .i64 26, .int .i64 2] (by rfl) rfl rfl (by (try simp only [List.map_toArray, List.map_cons, List.map_nil]); first | done | rfl | (simp only [List.length_drop, List.length_take]; rfl)) ?_
 with_reducible refine (pr_Bytes.calls k 26 2 t199 _ A19.out).mono ?_
 rintro e w32 ⟨rfl, hb⟩
 refine ⟨_, rfl, ?_⟩
 have n0_ := qas (blk_below (g := gb189) (o := .cells #[.string a0_0, .bool a0_1, .slice A0_2 l0_2.length c0_2, .int .i64 a0_3, .int .i64 a0_4, .int .i64 a0_5, .string a0_6, .int .i64 a0_7, .int .i64 a0_8] 39 (0, 0)) (by (with_reducible repeat (first | refine qkA ?_ _ | refine qkB ?_ | refine qkC ?_ _)); exact BK189.out) hb)
 have n1_ := qas (below_step (by repeat (first | (with_reducible first | exact HB.out | apply qbA | apply qbB | apply qbC | refine below_set ?_ GE189.out) | exact HB.out)) hb)
 clear BK189
 clear HB
 have BK189 := n0_
 have HB := n1_
 clear n0_ n1_
 (try clear hb)
 (try clear hb2)
 (try clear hk)
 (try clear hi)
 refine hK.out _ _ ⟨(blk_cell BK189.out 0).trans rfl, (blk_cell BK189.out 1).trans rfl, (blk_cell BK189.out 2).trans rfl, (blk_cell BK189.out 3).trans rfl, (blk_cell BK189.out 4).trans rfl, (blk_cell BK189.out 5).trans rfl, (blk_cell BK189.out 6).trans rfl, (blk_cell BK189.out 7).trans rfl, (blk_cell BK189.out 8).trans rfl⟩ (fun hHeld => ?_)
 clear hK K
 refine norm_ (a' := ?_) ?_ ?_
 rotate_left
 ·show Act.put _ (some 32) _ = _
  simp only [Act.put, qsA, qsB, qsC, i64_w, i32_w, qsD, qsE]
  rfl
 refine pure_ (i := 30) (N := some 33) (v := ?_) (a' := ?_) #[qt, qt, qt, qt, qt, qt, qt, qt, qt, qt, qt, qt, qt, qt, qt, qt, qt, qt, qt, qt, qt, qt, qt, qt, qt, qt, qt, qt, qt, qt, qt, qf] rfl rfl (any_of HT_.out (by kernel_rfl)) (fun _ _ _ h => h) (Or.inl ⟨by rfl, ?_⟩) ?_ ?_
 rotate_left
 ·intro w'
  go_simp
  with_reducible rfl
 rotate_left
 ·simp only [Act.put, qsA, qsB, qsC, i64_w, i32_w, qsD, qsE]
  rfl
 refine pure_ (i := 31) (N := some 2) (v := ?_) (a' := ?_) #[qt, qt, qt, qt, qt, qt, qt, qt, qt, qt, qt, qt, qt, qt, qt, qt, qt, qt, qt, qt, qt, qt, qt, qt, qt, qt, qt, qt, qt, qt, qt, qt] rfl rfl (any_of HT_.out (by kernel_rfl)) (fun _ _ _ h => h) (Or.inl ⟨by rfl, ?_⟩) ?_ ?_
 rotate_left
 ·intro w'
  go_simp
  with_reducible rfl
 rotate_left
 ·simp only [Act.put, qsA, qsB, qsC, i64_w, i32_w, qsD, qsE]
  rfl
 refine done_ (done_of HT_.out (by kernel_rfl)) ?_
 try go_wp2
 go_ret
 exact ⟨by first | rfl | (simp [errW_none, errW_some] <;> rfl) | (simp [*, errW_none, errW_some] <;> rfl), by repeat (first | (with_reducible first | exact HB.out | apply qbA | apply qbB | apply qbC | refine below_set ?_ GE189.out) | exact HB.out)⟩

attribute [local go_sem] max2_int min2_int max_two min_two max_three min_three max_four min_four   -- for this text's walks alone
set_option linter.unusedVariables false
set_option linter.unusedSimpArgs false

/-! ### pr_PutZip: function 18 -/
def pr_PutZip.l0 : Nat → ByteArray → ByteArray → Int → List (S39) → Option (ByteArray × Int)
 | 0, _, _, _, _ => none
 | k + 1, x4, x5, x6, x201000 => if x6 < (x201000.length : Int) then (if 0 ≤ x6 then ((pr_PutExtra.f k ((rd_T39 x201000 x6).f0) ((rd_T39 x201000 x6).f1) ((rd_T39 x201000 x6).f2) ((rd_T39 x201000 x6).f3) ((rd_T39 x201000 x6).f4) ((rd_T39 x201000 x6).f5) ((rd_T39 x201000 x6).f6) ((rd_T39 x201000 x6).f7) ((rd_T39 x201000 x6).f8)).bind fun bt205 => (if x5.size + 4 ≤ 9223372036854775807 then ((pr_Bytes.f k 20 2).bind fun t207 => (if (x5 ++ (⟨#[80, 75, 1, 2]⟩ : ByteArray)).size + t207.size ≤ 9223372036854775807 then ((pr_common.f k ((rd_T39 x201000 x6).f0) ((rd_T39 x201000 x6).f1) ((rd_T39 x201000 x6).f2) ((rd_T39 x201000 x6).f3) ((rd_T39 x201000 x6).f4) ((rd_T39 x201000 x6).f5) ((rd_T39 x201000 x6).f6) ((rd_T39 x201000 x6).f7) ((rd_T39 x201000 x6).f8)).bind fun t208 => (if ((x5 ++ (⟨#[80, 75, 1, 2]⟩ : ByteArray)) ++ t207).size + t208.size ≤ 9223372036854775807 then ((pr_Bytes.f k 0 6).bind fun t209 => (if (((x5 ++ (⟨#[80, 75, 1, 2]⟩ : ByteArray)) ++ t207) ++ t208).size + t209.size ≤ 9223372036854775807 then ((pr_Bytes.f k 0 4).bind fun t210 => (if ((((x5 ++ (⟨#[80, 75, 1, 2]⟩ : ByteArray)) ++ t207) ++ t208) ++ t209).size + t210.size ≤ 9223372036854775807 then ((pr_Bytes.f k (x4.size : Int) 4).bind fun t211 => (if (((((x5 ++ (⟨#[80, 75, 1, 2]⟩ : ByteArray)) ++ t207) ++ t208) ++ t209) ++ t210).size + t211.size ≤ 9223372036854775807 then (if ((((((x5 ++ (⟨#[80, 75, 1, 2]⟩ : ByteArray)) ++ t207) ++ t208) ++ t209) ++ t210) ++ t211).size + ((rd_T39 x201000 x6).f0).size ≤ 9223372036854775807 then (if (((((((x5 ++ (⟨#[80, 75, 1, 2]⟩ : ByteArray)) ++ t207) ++ t208) ++ t209) ++ t210) ++ t211) ++ ((rd_T39 x201000 x6).f0)).size + bt205.1.size ≤ 9223372036854775807 then (if x4.size + 4 ≤ 9223372036854775807 then ((pr_common.f k ((rd_T39 x201000 x6).f0) ((rd_T39 x201000 x6).f1) ((rd_T39 x201000 x6).f2) ((rd_T39 x201000 x6).f3) ((rd_T39 x201000 x6).f4) ((rd_T39 x201000 x6).f5) ((rd_T39 x201000 x6).f6) ((rd_T39 x201000 x6).f7) ((rd_T39 x201000 x6).f8)).bind fun t212 => (if (x4 ++ (⟨#[80, 75, 3, 4]⟩ : ByteArray)).size + t212.size ≤ 9223372036854775807 then (if ((x4 ++ (⟨#[80, 75, 3, 4]⟩ : ByteArray)) ++ t212).size + ((rd_T39 x201000 x6).f0).size ≤ 9223372036854775807 then (if (((x4 ++ (⟨#[80, 75, 3, 4]⟩ : ByteArray)) ++ t212) ++ ((rd_T39 x201000 x6).f0)).size + bt205.1.size ≤ 9223372036854775807 then (if ((((x4 ++ (⟨#[80, 75, 3, 4]⟩ : ByteArray)) ++ t212) ++ ((rd_T39 x201000 x6).f0)) ++ bt205.1).size + ((rd_T39 x201000 x6).f6).size ≤ 9223372036854775807 then (pr_PutZip.l0 k (((((x4 ++ (⟨#[80, 75, 3, 4]⟩ : ByteArray)) ++ t212) ++ ((rd_T39 x201000 x6).f0)) ++ bt205.1) ++ ((rd_T39 x201000 x6).f6)) ((((((((x5 ++ (⟨#[80, 75, 1, 2]⟩ : ByteArray)) ++ t207) ++ t208) ++ t209) ++ t210) ++ t211) ++ ((rd_T39 x201000 x6).f0)) ++ bt205.1) (wrap64 (x6 + 1)) x201000) else (none)) else (none)) else (none)) else (none))) else (none)) else (none)) else (none)) else (none))) else (none))) else (none))) else (none))) else (none))) else (none))) else (none)) else (if x4.size + x5.size ≤ 9223372036854775807 then (if (x4 ++ x5).size + 4 ≤ 9223372036854775807 then ((pr_Bytes.f k 0 4).bind fun t213 => (if ((x4 ++ x5) ++ (⟨#[80, 75, 5, 6]⟩ : ByteArray)).size + t213.size ≤ 9223372036854775807 then ((pr_Bytes.f k (x201000.length : Int) 2).bind fun t214 => (if (((x4 ++ x5) ++ (⟨#[80, 75, 5, 6]⟩ : ByteArray)) ++ t213).size + t214.size ≤ 9223372036854775807 then ((pr_Bytes.f k (x201000.length : Int) 2).bind fun t215 => (if ((((x4 ++ x5) ++ (⟨#[80, 75, 5, 6]⟩ : ByteArray)) ++ t213) ++ t214).size + t215.size ≤ 9223372036854775807 then ((pr_Bytes.f k (x5.size : Int) 4).bind fun t216 => (if (((((x4 ++ x5) ++ (⟨#[80, 75, 5, 6]⟩ : ByteArray)) ++ t213) ++ t214) ++ t215).size + t216.size ≤ 9223372036854775807 then ((pr_Bytes.f k (x4.size : Int) 4).bind fun t217 => (if ((((((x4 ++ x5) ++ (⟨#[80, 75, 5, 6]⟩ : ByteArray)) ++ t213) ++ t214) ++ t215) ++ t216).size + t217.size ≤ 9223372036854775807 then ((pr_Bytes.f k 0 2).bind fun t218 => (if (((((((x4 ++ x5) ++ (⟨#[80, 75, 5, 6]⟩ : ByteArray)) ++ t213) ++ t214) ++ t215) ++ t216) ++ t217).size + t218.size ≤ 9223372036854775807 then (some ((((((((x4 ++ x5) ++ (⟨#[80, 75, 5, 6]⟩ : ByteArray)) ++ t213) ++ t214) ++ t215) ++ t216) ++ t217) ++ t218, 0)) else (none))) else (none))) else (none))) else (none))) else (none))) else (none))) else (none)) else (none))
def pr_PutZip.f (k : Nat) (l0_0 : List (S39)) : Option (ByteArray × Int) := (pr_WriteMay.f k l0_0).bind fun t201 => (if t201 = true then ((pr_Size.f k l0_0).bind fun t202 => (if t202 > 4096 then (some ((⟨#[]⟩ : ByteArray), 1301)) else (pr_PutZip.l0 k (⟨#[]⟩ : ByteArray) (⟨#[]⟩ : ByteArray) 0 l0_0))) else (some ((⟨#[]⟩ : ByteArray), 1300)))
theorem pr_PutZip.mono_l : ∀ k, (∀ y0 y1 y2 y3, LeO (pr_PutZip.l0 k y0 y1 y2 y3) (pr_PutZip.l0 (k + 1) y0 y1 y2 y3))
 | 0 => fun _ _ _ _ r h => by simp [pr_PutZip.l0] at h
 | k + 1 => by
  have ih0 := pr_PutZip.mono_l k
  ·intro y0 y1 y2 y3
   unfold pr_PutZip.l0
   repeat' first
   | (with_reducible exact ih0 _ _ _ _)
   | (with_reducible exact pr_Bytes.mono _ _ _)
   | (with_reducible exact pr_PutExtra.mono _ _ _ _ _ _ _ _ _ _)
   | (with_reducible exact pr_Size.mono _ _)
   | (with_reducible exact pr_WriteMay.mono _ _)
   | (with_reducible exact pr_common.mono _ _ _ _ _ _ _ _ _ _)
   | (with_reducible exact LeO.refl _)
   | (with_reducible exact LeO.none _)
   | (with_reducible refine LeO.ite ?_ ?_)
   | (with_reducible refine LeO.bind ?_ (fun _ => ?_))
   | exact ih0 _ _ _ _
   | exact pr_Bytes.mono _ _ _
   | exact pr_PutExtra.mono _ _ _ _ _ _ _ _ _ _
   | exact pr_Size.mono _ _
   | exact pr_WriteMay.mono _ _
   | exact pr_common.mono _ _ _ _ _ _ _ _ _ _
   | exact LeO.none _
   | refine LeO.ite ?_ ?_
   | refine LeO.bind ?_ (fun _ => ?_)
theorem pr_PutZip.mono : ∀ a0 k, LeO (pr_PutZip.f k a0) (pr_PutZip.f (k + 1) a0) := by
 intro a0 k
 have ih0 := pr_PutZip.mono_l k
 unfold pr_PutZip.f
 repeat' first
   | (with_reducible exact ih0 _ _ _ _)
   | (with_reducible exact pr_Bytes.mono _ _ _)
   | (with_reducible exact pr_PutExtra.mono _ _ _ _ _ _ _ _ _ _)
   | (with_reducible exact pr_Size.mono _ _)
   | (with_reducible exact pr_WriteMay.mono _ _)
   | (with_reducible exact pr_common.mono _ _ _ _ _ _ _ _ _ _)
   | (with_reducible exact LeO.refl _)
   | (with_reducible exact LeO.none _)
   | (with_reducible refine LeO.ite ?_ ?_)
   | (with_reducible refine LeO.bind ?_ (fun _ => ?_))
   | exact ih0 _ _ _ _
   | exact pr_Bytes.mono _ _ _
   | exact pr_PutExtra.mono _ _ _ _ _ _ _ _ _ _
   | exact pr_Size.mono _ _
   | exact pr_WriteMay.mono _ _
   | exact pr_common.mono _ _ _ _ _ _ _ _ _ _
   | exact LeO.none _
   | refine LeO.ite ?_ ?_
   | refine LeO.bind ?_ (fun _ => ?_)
def pr_PutZip.T11 : Bool × List (List Nat × List Nat) := (true, [([], []), ([0], [0]), ([], []), ([1, 2], [1, 2]), ([], []), ([4, 2], [4]), ([3, 5], [3, 5]), ([5], []), ([6, 7], [6, 7]), ([7], []), ([8, 9], [8, 9]), ([], []), ([11], [11]), ([12, 9], [12]), ([10, 13], [10, 13]), ([], []), ([15], [15]), ([14, 16], [14, 16]), ([], []), ([17, 18], [17, 18]), ([19, 13, 0, 1, 2, 3, 4, 5, 6, 7, 8, 9, 10, 11, 12, 13, 14, 15, 16, 17, 18, 19], [0, 19])])
def pr_PutZip.B11 : List Nat := [0, 1, 0, 7, 0, 20, 63, 52, 255, 180, 1023, 0, 2048, 6836, 16383, 0, 32768, 131071, 0, 524287, 1048575]
theorem pr_PutZip.tab11 : rtab .any (opsOf Tryd.f18 11) = pr_PutZip.T11 := by kernel_rfl
theorem pr_PutZip.bits11 : waitsOk pr_PutZip.T11.2 pr_PutZip.B11 = true := by kernel_rfl
def pr_PutZip.T12 : Bool × List (List Nat × List Nat) := (true, [([], []), ([0], [0]), ([], []), ([2], [2]), ([1, 3], [1, 3]), ([], []), ([5], [5]), ([4, 6], [4, 6]), ([], []), ([7, 8], [7, 8]), ([], []), ([10], [10]), ([9, 11], [9, 11]), ([12, 3, 0, 1, 2, 3, 4, 5, 6, 7, 8, 9, 10, 11, 12], [0, 12])])
def pr_PutZip.B12 : List Nat := [0, 1, 0, 4, 15, 0, 32, 127, 0, 511, 0, 1024, 4095, 8191]
theorem pr_PutZip.tab12 : rtab .any (opsOf Tryd.f18 12) = pr_PutZip.T12 := by kernel_rfl
theorem pr_PutZip.bits12 : waitsOk pr_PutZip.T12.2 pr_PutZip.B12 = true := by kernel_rfl
set_option maxHeartbeats 8000000 in
set_option maxRecDepth 100000 in
theorem pr_PutZip.calls (k : Nat) (A0_0 : Option Addr) (c0_0 : Nat) (l0_0 : List (S39)) (r1 : ByteArray) (r2 : Int) (w : World) (hr0_0 : Kd.C k39 w A0_0 l0_0.length l0_0) (hc0_0 : l0_0.length ≤ c0_0) (h : pr_PutZip.f k l0_0 = some (r1, r2)) :
  Calls Tryd.prog 18 #[.agg #[.slice A0_0 l0_0.length c0_0]] w fun e w' => e = .returned (.tuple #[.string r1, .int .i64 r2]) ∧ Below w.heap.size w w' := by
 have hu24 := Tryd.underlying24
 have hu39 := Tryd.underlying39
 have HR0_0 := qas hr0_0
 have HC0_0 := qas hc0_0
 clear hr0_0 hc0_0
 have HB := qas (Below.refl w.heap.size w)
 have H : ((pr_WriteMay.f k l0_0).bind fun t201 => (if t201 = true then ((pr_Size.f k l0_0).bind fun t202 => (if t202 > 4096 then (some ((⟨#[]⟩ : ByteArray), 1301)) else (pr_PutZip.l0 k (⟨#[]⟩ : ByteArray) (⟨#[]⟩ : ByteArray) 0 l0_0))) else (some ((⟨#[]⟩ : ByteArray), 1300)))) = some (r1, r2) := h
 clear h
 replace H := Option.bind_eq_some_iff.mp H
 obtain ⟨t201, A20, H⟩ := H
 replace H : (if t201 = true then ((pr_Size.f k l0_0).bind fun t202 => (if t202 > 4096 then (some ((⟨#[]⟩ : ByteArray), 1301)) else (pr_PutZip.l0 k (⟨#[]⟩ : ByteArray) (⟨#[]⟩ : ByteArray) 0 l0_0))) else (some ((⟨#[]⟩ : ByteArray), 1300))) = some (r1, r2) := H
 have A2 := qas A20
 clear A20
 by_cases c3 : t201 = true
 rotate_left
 ·replace c3 := Bool.eq_false_iff.mpr c3
  subst c3
  have H1 : (some ((⟨#[]⟩ : ByteArray), 1300)) = some (r1, r2) := by rw [if_neg (show ¬ (false = true) by decide)] at H; exact H
  clear H
  have H := H1
  clear H1
  simp only [Option.some.injEq, Prod.mk.injEq] at H
  obtain ⟨rfl, rfl⟩ := H
  go_enter Tryd.func18, Tryd.ntmps18
  go_wp2_with (first | ((with_reducible refine gate_dst (N := 1) rfl ?_); refine box_event ?hg (N := 1) ?hd (cs := #[.slice A0_0 l0_0.length c0_0]) (t := 24) ?hr ?_; (case hd => rfl); (case hg => rfl); (case hr => first | (go_simp; done) | (go_simp; rfl)); intro gb200 hg w72 hbox hb; have n0_ := qas (below_step (by repeat (first | (with_reducible first | exact HB.out | apply qbA | apply qbB | apply qbC) | exact HB.out)) hb); have n1_ := qas (hbox); have n2_ := qas ((by rw [hg]; exact (below_size (by repeat (first | (with_reducible first | exact HB.out | apply qbA | apply qbB | apply qbC) | exact HB.out))) : w.heap.size ≤ gb200)); have n3_ := qas ((by rw [hg]; exact (below_size (by repeat (first | (with_reducible first | exact HB.out | apply qbA | apply qbB | apply qbC) | exact HB.out))) : w.heap.size ≤ gb200)); clear HB; have HB := n0_; have BK200 := n1_; have GW200 := n2_; have GE200 := n3_; clear n0_ n1_ n2_ n3_; clear hb hbox hg; have hcz73_0 : w72.cell? ⟨gb200, 0, none⟩ = some (.slice A0_0 l0_0.length c0_0) := (blk_cell BK200.out 0).trans rfl; have hfz73_0 := blk_frozen BK200.out 0) | ((with_reducible refine gate_callee (f := 23) rfl ?_); refine goesL_ (some 12) rfl rfl Tryd.func23 (by kernel_rfl) rfl #[.agg #[.slice A0_0 l0_0.length c0_0]] rfl (by (try simp only [List.map_toArray, List.map_cons, List.map_nil]); first | done | rfl | (simp only [List.length_drop, List.length_take]; rfl)) ?_; (with_reducible refine (pr_WriteMay.calls k _ _ l0_0 false _ ?side1 ?side2 A2.out).mono ?_); (case side1 => repeat (first | exact (Kd.C_below HR0_0.out HB.out) | (with_reducible refine Kd.C_alloc ?_ _) | (with_reducible refine Kd.C_drewN ?_ _) | (with_reducible refine Kd.C_drew ?_))); (case side2 => exact HC0_0.out); rintro e w74 ⟨rfl, hb⟩; refine ⟨_, rfl, ?_⟩; have n0_ := qas (blk_below (g := gb200) (o := .cells #[.slice A0_0 l0_0.length c0_0] 24 (0, 0)) (by (with_reducible repeat (first | refine qkA ?_ _ | refine qkB ?_ | refine qkC ?_ _)); exact BK200.out) hb); have n1_ := qas (below_step (by repeat (first | (with_reducible first | exact HB.out | apply qbA | apply qbB | apply qbC | refine below_set ?_ GE200.out) | exact HB.out)) hb); clear BK200; clear HB; have BK200 := n0_; have HB := n1_; clear n0_ n1_; (try clear hb); (try clear hb2); (try clear hk); (try clear hi)))
  go_ret2
  exact ⟨by first | rfl | (simp [errW_none, errW_some] <;> rfl) | (simp [*, errW_none, errW_some] <;> rfl), by repeat (first | (with_reducible first | exact HB.out | apply qbA | apply qbB | apply qbC | refine below_set ?_ GE200.out) | exact HB.out)⟩
 subst c3
 have H1 : ((pr_Size.f k l0_0).bind fun t202 => (if t202 > 4096 then (some ((⟨#[]⟩ : ByteArray), 1301)) else (pr_PutZip.l0 k (⟨#[]⟩ : ByteArray) (⟨#[]⟩ : ByteArray) 0 l0_0))) = some (r1, r2) := by rw [if_pos rfl] at H; exact H
 clear H
 have H := H1
 clear H1
 replace H := Option.bind_eq_some_iff.mp H
 obtain ⟨t202, A40, H⟩ := H
 replace H : (if t202 > 4096 then (some ((⟨#[]⟩ : ByteArray), 1301)) else (pr_PutZip.l0 k (⟨#[]⟩ : ByteArray) (⟨#[]⟩ : ByteArray) 0 l0_0)) = some (r1, r2) := H
 have A4 := qas A40
 clear A40
 by_cases c5 : t202 > 4096
 ·rw [if_pos c5] at H
  have c5b0 : decide (4096 < t202) = true := decide_eq_true c5
  clear c5
  simp only [Option.some.injEq, Prod.mk.injEq] at H
  obtain ⟨rfl, rfl⟩ := H
  go_enter Tryd.func18, Tryd.ntmps18
  go_wp2_with (first | ((with_reducible refine gate_dst (N := 1) rfl ?_); refine box_event ?hg (N := 1) ?hd (cs := #[.slice A0_0 l0_0.length c0_0]) (t := 24) ?hr ?_; (case hd => rfl); (case hg => rfl); (case hr => first | (go_simp; done) | (go_simp; rfl)); intro gb200 hg w6 hbox hb; have n0_ := qas (below_step (by repeat (first | (with_reducible first | exact HB.out | apply qbA | apply qbB | apply qbC) | exact HB.out)) hb); have n1_ := qas (hbox); have n2_ := qas ((by rw [hg]; exact (below_size (by repeat (first | (with_reducible first | exact HB.out | apply qbA | apply qbB | apply qbC) | exact HB.out))) : w.heap.size ≤ gb200)); have n3_ := qas ((by rw [hg]; exact (below_size (by repeat (first | (with_reducible first | exact HB.out | apply qbA | apply qbB | apply qbC) | exact HB.out))) : w.heap.size ≤ gb200)); clear HB; have HB := n0_; have BK200 := n1_; have GW200 := n2_; have GE200 := n3_; clear n0_ n1_ n2_ n3_; clear hb hbox hg; have hcz7_0 : w6.cell? ⟨gb200, 0, none⟩ = some (.slice A0_0 l0_0.length c0_0) := (blk_cell BK200.out 0).trans rfl; have hfz7_0 := blk_frozen BK200.out 0) | ((with_reducible refine gate_callee (f := 23) rfl ?_); refine goesL_ (some 12) rfl rfl Tryd.func23 (by kernel_rfl) rfl #[.agg #[.slice A0_0 l0_0.length c0_0]] rfl (by (try simp only [List.map_toArray, List.map_cons, List.map_nil]); first | done | rfl | (simp only [List.length_drop, List.length_take]; rfl)) ?_; (with_reducible refine (pr_WriteMay.calls k _ _ l0_0 true _ ?side1 ?side2 A2.out).mono ?_); (case side1 => repeat (first | exact (Kd.C_below HR0_0.out HB.out) | (with_reducible refine Kd.C_alloc ?_ _) | (with_reducible refine Kd.C_drewN ?_ _) | (with_reducible refine Kd.C_drew ?_))); (case side2 => exact HC0_0.out); rintro e w8 ⟨rfl, hb⟩; refine ⟨_, rfl, ?_⟩; have n0_ := qas (blk_below (g := gb200) (o := .cells #[.slice A0_0 l0_0.length c0_0] 24 (0, 0)) (by (with_reducible repeat (first | refine qkA ?_ _ | refine qkB ?_ | refine qkC ?_ _)); exact BK200.out) hb); have n1_ := qas (below_step (by repeat (first | (with_reducible first | exact HB.out | apply qbA | apply qbB | apply qbC | refine below_set ?_ GE200.out) | exact HB.out)) hb); clear BK200; clear HB; have BK200 := n0_; have HB := n1_; clear n0_ n1_; (try clear hb); (try clear hb2); (try clear hk); (try clear hi); have hcz9_0 : w8.cell? ⟨gb200, 0, none⟩ = some (.slice A0_0 l0_0.length c0_0) := (blk_cell BK200.out 0).trans rfl; have hfz9_0 := blk_frozen BK200.out 0) | ((with_reducible refine gate_callee (f := 21) rfl ?_); refine goesL_ (some 15) rfl rfl Tryd.func21 (by kernel_rfl) rfl #[.agg #[.slice A0_0 l0_0.length c0_0]] rfl (by (try simp only [List.map_toArray, List.map_cons, List.map_nil]); first | done | rfl | (simp only [List.length_drop, List.length_take]; rfl)) ?_; (with_reducible refine (pr_Size.calls k _ _ l0_0 t202 _ ?side1 ?side2 A4.out).mono ?_); (case side1 => repeat (first | exact (Kd.C_below HR0_0.out HB.out) | (with_reducible refine Kd.C_alloc ?_ _) | (with_reducible refine Kd.C_drewN ?_ _) | (with_reducible refine Kd.C_drew ?_))); (case side2 => exact HC0_0.out); rintro e w10 ⟨rfl, hb⟩; refine ⟨_, rfl, ?_⟩; have n0_ := qas (blk_below (g := gb200) (o := .cells #[.slice A0_0 l0_0.length c0_0] 24 (0, 0)) (by (with_reducible repeat (first | refine qkA ?_ _ | refine qkB ?_ | refine qkC ?_ _)); exact BK200.out) hb); have n1_ := qas (below_step (by repeat (first | (with_reducible first | exact HB.out | apply qbA | apply qbB | apply qbC | refine below_set ?_ GE200.out) | exact HB.out)) hb); clear BK200; clear HB; have BK200 := n0_; have HB := n1_; clear n0_ n1_; (try clear hb); (try clear hb2); (try clear hk); (try clear hi)))
  go_ret2
  exact ⟨by first | rfl | (simp [errW_none, errW_some] <;> rfl) | (simp [*, errW_none, errW_some] <;> rfl), by repeat (first | (with_reducible first | exact HB.out | apply qbA | apply qbB | apply qbC | refine below_set ?_ GE200.out) | exact HB.out)⟩
 rw [if_neg c5] at H
 have c5b0 : decide (4096 < t202) = false := decide_eq_false c5
 clear c5
 have H' := qas H
 clear H
 go_enter Tryd.func18, Tryd.ntmps18
 go_wp2_with (first | ((with_reducible refine gate_dst (N := 1) rfl ?_); refine box_event ?hg (N := 1) ?hd (cs := #[.slice A0_0 l0_0.length c0_0]) (t := 24) ?hr ?_; (case hd => rfl); (case hg => rfl); (case hr => first | (go_simp; done) | (go_simp; rfl)); intro gb200 hg w11 hbox hb; have n0_ := qas (below_step (by repeat (first | (with_reducible first | exact HB.out | apply qbA | apply qbB | apply qbC) | exact HB.out)) hb); have n1_ := qas (hbox); have n2_ := qas ((by rw [hg]; exact (below_size (by repeat (first | (with_reducible first | exact HB.out | apply qbA | apply qbB | apply qbC) | exact HB.out))) : w.heap.size ≤ gb200)); have n3_ := qas ((by rw [hg]; exact (below_size (by repeat (first | (with_reducible first | exact HB.out | apply qbA | apply qbB | apply qbC) | exact HB.out))) : w.heap.size ≤ gb200)); clear HB; have HB := n0_; have BK200 := n1_; have GW200 := n2_; have GE200 := n3_; clear n0_ n1_ n2_ n3_; clear hb hbox hg; have hcz12_0 : w11.cell? ⟨gb200, 0, none⟩ = some (.slice A0_0 l0_0.length c0_0) := (blk_cell BK200.out 0).trans rfl; have hfz12_0 := blk_frozen BK200.out 0) | ((with_reducible refine gate_callee (f := 23) rfl ?_); refine goesL_ (some 12) rfl rfl Tryd.func23 (by kernel_rfl) rfl #[.agg #[.slice A0_0 l0_0.length c0_0]] rfl (by (try simp only [List.map_toArray, List.map_cons, List.map_nil]); first | done | rfl | (simp only [List.length_drop, List.length_take]; rfl)) ?_; (with_reducible refine (pr_WriteMay.calls k _ _ l0_0 true _ ?side1 ?side2 A2.out).mono ?_); (case side1 => repeat (first | exact (Kd.C_below HR0_0.out HB.out) | (with_reducible refine Kd.C_alloc ?_ _) | (with_reducible refine Kd.C_drewN ?_ _) | (with_reducible refine Kd.C_drew ?_))); (case side2 => exact HC0_0.out); rintro e w13 ⟨rfl, hb⟩; refine ⟨_, rfl, ?_⟩; have n0_ := qas (blk_below (g := gb200) (o := .cells #[.slice A0_0 l0_0.length c0_0] 24 (0, 0)) (by (with_reducible repeat (first | refine qkA ?_ _ | refine qkB ?_ | refine qkC ?_ _)); exact BK200.out) hb); have n1_ := qas (below_step (by repeat (first | (with_reducible first | exact HB.out | apply qbA | apply qbB | apply qbC | refine below_set ?_ GE200.out) | exact HB.out)) hb); clear BK200; clear HB; have BK200 := n0_; have HB := n1_; clear n0_ n1_; (try clear hb); (try clear hb2); (try clear hk); (try clear hi); have hcz14_0 : w13.cell? ⟨gb200, 0, none⟩ = some (.slice A0_0 l0_0.length c0_0) := (blk_cell BK200.out 0).trans rfl; have hfz14_0 := blk_frozen BK200.out 0) | ((with_reducible refine gate_callee (f := 21) rfl ?_); refine goesL_ (some 15) rfl rfl Tryd.func21 (by kernel_rfl) rfl #[.agg #[.slice A0_0 l0_0.length c0_0]] rfl (by (try simp only [List.map_toArray, List.map_cons, List.map_nil]); first | done | rfl | (simp only [List.length_drop, List.length_take]; rfl)) ?_; (with_reducible refine (pr_Size.calls k _ _ l0_0 t202 _ ?side1 ?side2 A4.out).mono ?_); (case side1 => repeat (first | exact (Kd.C_below HR0_0.out HB.out) | (with_reducible refine Kd.C_alloc ?_ _) | (with_reducible refine Kd.C_drewN ?_ _) | (with_reducible refine Kd.C_drew ?_))); (case side2 => exact HC0_0.out); rintro e w15 ⟨rfl, hb⟩; refine ⟨_, rfl, ?_⟩; have n0_ := qas (blk_below (g := gb200) (o := .cells #[.slice A0_0 l0_0.length c0_0] 24 (0, 0)) (by (with_reducible repeat (first | refine qkA ?_ _ | refine qkB ?_ | refine qkC ?_ _)); exact BK200.out) hb); have n1_ := qas (below_step (by repeat (first | (with_reducible first | exact HB.out | apply qbA | apply qbB | apply qbC | refine below_set ?_ GE200.out) | exact HB.out)) hb); clear BK200; clear HB; have BK200 := n0_; have HB := n1_; clear n0_ n1_; (try clear hb); (try clear hb2); (try clear hk); (try clear hi)))
 go_loopg [4, 5, 6] k (fun kq v4 v5 v6 w' => ∃ (x4_1 : ByteArray) (x5_1 : ByteArray) (x6_1 : Int), v4 = .string x4_1 ∧ v5 = .string x5_1 ∧ v6 = .int .i64 x6_1 ∧ Aside0 (pr_PutZip.l0 kq x4_1 x5_1 x6_1 l0_0 = some (r1, r2)) ∧ Aside0 (kq ≤ k) ∧ Aside0 (w'.heap[gb200]? = some (.cells #[(.slice A0_0 l0_0.length c0_0)] 24 (0, 0))) ∧ Aside0 (Below w.heap.size w w'))
 case atStart => exact ⟨((⟨#[]⟩ : ByteArray)), ((⟨#[]⟩ : ByteArray)), (0), (by first | rfl | (simp; done) | (simp [*]; done)), (by first | rfl | (simp; done) | (simp [*]; done)), (by first | rfl | (simp; done) | (simp [*]; done)), H', ⟨Nat.le_refl _⟩, ⟨by (with_reducible repeat (first | refine qkA ?_ _ | refine qkB ?_ | refine qkC ?_ _)); exact BK200.out⟩, ⟨by repeat (first | (with_reducible first | exact HB.out | apply qbA | apply qbB | apply qbC | refine below_set ?_ GE200.out) | exact HB.out)⟩⟩
 case round =>
  clear H'
  try clear c1
  try clear c2
  try clear p2
  try clear c3
  try clear c5
  try clear c5b0
  try clear hcz12_0
  try clear hcz14_0
  try clear hcz7_0
  try clear hcz9_0
  try clear hfz12_0
  try clear hfz14_0
  try clear hfz7_0
  try clear hfz9_0
  obtain ⟨x4_1, x5_1, x6_1, rfl, rfl, rfl, HA, HK1, BK200, HB⟩ := hrel
  cases gk with
  | zero => exact absurd HA.out (by simp [pr_PutZip.l0])
  | succ k1 =>
   have H := HA.out
   clear HA
   simp only [pr_PutZip.l0] at H
   by_cases c16 : x6_1 < (l0_0.length : Int)
   rotate_left
   ·rw [if_neg c16] at H
    have c16b0 : decide (x6_1 < (l0_0.length : Int)) = false := decide_eq_false c16
    clear c16
    by_cases c51 : x4_1.size + x5_1.size ≤ 9223372036854775807
    rotate_left
    ·rw [if_neg c51] at H
     exact absurd H (by simp)
    rw [if_pos c51] at H
    have c51b0 := eq_true c51
    have c51b1 : decide (x4_1.size + x5_1.size ≤ 9223372036854775807) = true := decide_eq_true c51
    try have c51b2 : (9223372036854775807 < x4_1.size + x5_1.size) = False := eq_false (Nat.not_lt.2 c51)
    by_cases c52 : (x4_1 ++ x5_1).size + 4 ≤ 9223372036854775807
    rotate_left
    ·rw [if_neg c52] at H
     exact absurd H (by simp)
    rw [if_pos c52] at H
    have c52b0 := eq_true c52
    have c52b1 : decide ((x4_1 ++ x5_1).size + 4 ≤ 9223372036854775807) = true := decide_eq_true c52
    try have c52b2 : (9223372036854775807 < (x4_1 ++ x5_1).size + 4) = False := eq_false (Nat.not_lt.2 c52)
    have c52b9 : (9223372036854775807 < (x4_1 ++ x5_1).size + 4) = False := eq_false (Nat.not_lt.2 c52)
    (first | (simp only [ByteArray.size_append] at c52b9) | (try simp only [ByteArray.size_append] at c52b9))
    replace H := Option.bind_eq_some_iff.mp H
    obtain ⟨t213, A530, H⟩ := H
    replace H : (if ((x4_1 ++ x5_1) ++ (⟨#[80, 75, 5, 6]⟩ : ByteArray)).size + t213.size ≤ 9223372036854775807 then ((pr_Bytes.f k1 (l0_0.length : Int) 2).bind fun t214 => (if (((x4_1 ++ x5_1) ++ (⟨#[80, 75, 5, 6]⟩ : ByteArray)) ++ t213).size + t214.size ≤ 9223372036854775807 then ((pr_Bytes.f k1 (l0_0.length : Int) 2).bind fun t215 => (if ((((x4_1 ++ x5_1) ++ (⟨#[80, 75, 5, 6]⟩ : ByteArray)) ++ t213) ++ t214).size + t215.size ≤ 9223372036854775807 then ((pr_Bytes.f k1 (x5_1.size : Int) 4).bind fun t216 => (if (((((x4_1 ++ x5_1) ++ (⟨#[80, 75, 5, 6]⟩ : ByteArray)) ++ t213) ++ t214) ++ t215).size + t216.size ≤ 9223372036854775807 then ((pr_Bytes.f k1 (x4_1.size : Int) 4).bind fun t217 => (if ((((((x4_1 ++ x5_1) ++ (⟨#[80, 75, 5, 6]⟩ : ByteArray)) ++ t213) ++ t214) ++ t215) ++ t216).size + t217.size ≤ 9223372036854775807 then ((pr_Bytes.f k1 0 2).bind fun t218 => (if (((((((x4_1 ++ x5_1) ++ (⟨#[80, 75, 5, 6]⟩ : ByteArray)) ++ t213) ++ t214) ++ t215) ++ t216) ++ t217).size + t218.size ≤ 9223372036854775807 then (some ((((((((x4_1 ++ x5_1) ++ (⟨#[80, 75, 5, 6]⟩ : ByteArray)) ++ t213) ++ t214) ++ t215) ++ t216) ++ t217) ++ t218, 0)) else (none))) else (none))) else (none))) else (none))) else (none))) else (none)) = some (r1, r2) := H
    have A53 := qas A530
    clear A530
    by_cases c54 : ((x4_1 ++ x5_1) ++ (⟨#[80, 75, 5, 6]⟩ : ByteArray)).size + t213.size ≤ 9223372036854775807
    rotate_left
    ·rw [if_neg c54] at H
     exact absurd H (by simp)
    rw [if_pos c54] at H
    have c54b0 := eq_true c54
    have c54b1 : decide (((x4_1 ++ x5_1) ++ (⟨#[80, 75, 5, 6]⟩ : ByteArray)).size + t213.size ≤ 9223372036854775807) = true := decide_eq_true c54
    try have c54b2 : (9223372036854775807 < ((x4_1 ++ x5_1) ++ (⟨#[80, 75, 5, 6]⟩ : ByteArray)).size + t213.size) = False := eq_false (Nat.not_lt.2 c54)
    have c54b9 : (9223372036854775807 < ((x4_1 ++ x5_1) ++ (⟨#[80, 75, 5, 6]⟩ : ByteArray)).size + t213.size) = False := eq_false (Nat.not_lt.2 c54)
    (first | (simp only [ByteArray.size_append, show (⟨#[80, 75, 5, 6]⟩ : ByteArray).size = 4 from rfl] at c54b9) | (try simp only [ByteArray.size_append, show (⟨#[80, 75, 5, 6]⟩ : ByteArray).size = 4 from rfl] at c54b9))
    replace H := Option.bind_eq_some_iff.mp H
    obtain ⟨t214, A550, H⟩ := H
    replace H : (if (((x4_1 ++ x5_1) ++ (⟨#[80, 75, 5, 6]⟩ : ByteArray)) ++ t213).size + t214.size ≤ 9223372036854775807 then ((pr_Bytes.f k1 (l0_0.length : Int) 2).bind fun t215 => (if ((((x4_1 ++ x5_1) ++ (⟨#[80, 75, 5, 6]⟩ : ByteArray)) ++ t213) ++ t214).size + t215.size ≤ 9223372036854775807 then ((pr_Bytes.f k1 (x5_1.size : Int) 4).bind fun t216 => (if (((((x4_1 ++ x5_1) ++ (⟨#[80, 75, 5, 6]⟩ : ByteArray)) ++ t213) ++ t214) ++ t215).size + t216.size ≤ 9223372036854775807 then ((pr_Bytes.f k1 (x4_1.size : Int) 4).bind fun t217 => (if ((((((x4_1 ++ x5_1) ++ (⟨#[80, 75, 5, 6]⟩ : ByteArray)) ++ t213) ++ t214) ++ t215) ++ t216).size + t217.size ≤ 9223372036854775807 then ((pr_Bytes.f k1 0 2).bind fun t218 => (if (((((((x4_1 ++ x5_1) ++ (⟨#[80, 75, 5, 6]⟩ : ByteArray)) ++ t213) ++ t214) ++ t215) ++ t216) ++ t217).size + t218.size ≤ 9223372036854775807 then (some ((((((((x4_1 ++ x5_1) ++ (⟨#[80, 75, 5, 6]⟩ : ByteArray)) ++ t213) ++ t214) ++ t215) ++ t216) ++ t217) ++ t218, 0)) else (none))) else (none))) else (none))) else (none))) else (none)) = some (r1, r2) := H
    have A55 := qas A550
    clear A550
    by_cases c56 : (((x4_1 ++ x5_1) ++ (⟨#[80, 75, 5, 6]⟩ : ByteArray)) ++ t213).size + t214.size ≤ 9223372036854775807
    rotate_left
    ·rw [if_neg c56] at H
     exact absurd H (by simp)
    rw [if_pos c56] at H
    have c56b0 := eq_true c56
    have c56b1 : decide ((((x4_1 ++ x5_1) ++ (⟨#[80, 75, 5, 6]⟩ : ByteArray)) ++ t213).size + t214.size ≤ 9223372036854775807) = true := decide_eq_true c56
    try have c56b2 : (9223372036854775807 < (((x4_1 ++ x5_1) ++ (⟨#[80, 75, 5, 6]⟩ : ByteArray)) ++ t213).size + t214.size) = False := eq_false (Nat.not_lt.2 c56)
    have c56b9 : (9223372036854775807 < (((x4_1 ++ x5_1) ++ (⟨#[80, 75, 5, 6]⟩ : ByteArray)) ++ t213).size + t214.size) = False := eq_false (Nat.not_lt.2 c56)
    (first | (simp only [ByteArray.size_append, show (⟨#[80, 75, 5, 6]⟩ : ByteArray).size = 4 from rfl] at c56b9) | (try simp only [ByteArray.size_append, show (⟨#[80, 75, 5, 6]⟩ : ByteArray).size = 4 from rfl] at c56b9))
    replace H := Option.bind_eq_some_iff.mp H
    obtain ⟨t215, A570, H⟩ := H
    replace H : (if ((((x4_1 ++ x5_1) ++ (⟨#[80, 75, 5, 6]⟩ : ByteArray)) ++ t213) ++ t214).size + t215.size ≤ 9223372036854775807 then ((pr_Bytes.f k1 (x5_1.size : Int) 4).bind fun t216 => (if (((((x4_1 ++ x5_1) ++ (⟨#[80, 75, 5, 6]⟩ : ByteArray)) ++ t213) ++ t214) ++ t215).size + t216.size ≤ 9223372036854775807 then ((pr_Bytes.f k1 (x4_1.size : Int) 4).bind fun t217 => (if ((((((x4_1 ++ x5_1) ++ (⟨#[80, 75, 5, 6]⟩ : ByteArray)) ++ t213) ++ t214) ++ t215) ++ t216).size + t217.size ≤ 9223372036854775807 then ((pr_Bytes.f k1 0 2).bind fun t218 => (if (((((((x4_1 ++ x5_1) ++ (⟨#[80, 75, 5, 6]⟩ : ByteArray)) ++ t213) ++ t214) ++ t215) ++ t216) ++ t217).size + t218.size ≤ 9223372036854775807 then (some ((((((((x4_1 ++ x5_1) ++ (⟨#[80, 75, 5, 6]⟩ : ByteArray)) ++ t213) ++ t214) ++ t215) ++ t216) ++ t217) ++ t218, 0)) else (none))) else (none))) else (none))) else (none)) = some (r1, r2) := H
    have A57 := qas A570
    clear A570
    by_cases c58 : ((((x4_1 ++ x5_1) ++ (⟨#[80, 75, 5, 6]⟩ : ByteArray)) ++ t213) ++ t214).size + t215.size ≤ 9223372036854775807
    rotate_left
    ·rw [if_neg c58] at H
     exact absurd H (by simp)
    rw [if_pos c58] at H
    have c58b0 := eq_true c58
    have c58b1 : decide (((((x4_1 ++ x5_1) ++ (⟨#[80, 75, 5, 6]⟩ : ByteArray)) ++ t213) ++ t214).size + t215.size ≤ 9223372036854775807) = true := decide_eq_true c58
    try have c58b2 : (9223372036854775807 < ((((x4_1 ++ x5_1) ++ (⟨#[80, 75, 5, 6]⟩ : ByteArray)) ++ t213) ++ t214).size + t215.size) = False := eq_false (Nat.not_lt.2 c58)
    have c58b9 : (9223372036854775807 < ((((x4_1 ++ x5_1) ++ (⟨#[80, 75, 5, 6]⟩ : ByteArray)) ++ t213) ++ t214).size + t215.size) = False := eq_false (Nat.not_lt.2 c58)
    (first | (simp only [ByteArray.size_append, show (⟨#[80, 75, 5, 6]⟩ : ByteArray).size = 4 from rfl] at c58b9) | (try simp only [ByteArray.size_append, show (⟨#[80, 75, 5, 6]⟩ : ByteArray).size = 4 from rfl] at c58b9))
    replace H := Option.bind_eq_some_iff.mp H
    obtain ⟨t216, A590, H⟩ := H
    replace H : (if (((((x4_1 ++ x5_1) ++ (⟨#[80, 75, 5, 6]⟩ : ByteArray)) ++ t213) ++ t214) ++ t215).size + t216.size ≤ 9223372036854775807 then ((pr_Bytes.f k1 (x4_1.size : Int) 4).bind fun t217 => (if ((((((x4_1 ++ x5_1) ++ (⟨#[80, 75, 5, 6]⟩ : ByteArray)) ++ t213) ++ t214) ++ t215) ++ t216).size + t217.size ≤ 9223372036854775807 then ((pr_Bytes.f k1 0 2).bind fun t218 => (if (((((((x4_1 ++ x5_1) ++ (⟨#[80, 75, 5, 6]⟩ : ByteArray)) ++ t213) ++ t214) ++ t215) ++ t216) ++ t217).size + t218.size ≤ 9223372036854775807 then (some ((((((((x4_1 ++ x5_1) ++ (⟨#[80, 75, 5, 6]⟩ : ByteArray)) ++ t213) ++ t214) ++ t215) ++ t216) ++ t217) ++ t218, 0)) else (none))) else (none))) else (none)) = some (r1, r2) := H
    have A59 := qas A590
    clear A590
    by_cases c60 : (((((x4_1 ++ x5_1) ++ (⟨#[80, 75, 5, 6]⟩ : ByteArray)) ++ t213) ++ t214) ++ t215).size + t216.size ≤ 9223372036854775807
    rotate_left
    ·rw [if_neg c60] at H
     exact absurd H (by simp)
    rw [if_pos c60] at H
    have c60b0 := eq_true c60
    have c60b1 : decide ((((((x4_1 ++ x5_1) ++ (⟨#[80, 75, 5, 6]⟩ : ByteArray)) ++ t213) ++ t214) ++ t215).size + t216.size ≤ 9223372036854775807) = true := decide_eq_true c60
    try have c60b2 : (9223372036854775807 < (((((x4_1 ++ x5_1) ++ (⟨#[80, 75, 5, 6]⟩ : ByteArray)) ++ t213) ++ t214) ++ t215).size + t216.size) = False := eq_false (Nat.not_lt.2 c60)
    have c60b9 : (9223372036854775807 < (((((x4_1 ++ x5_1) ++ (⟨#[80, 75, 5, 6]⟩ : ByteArray)) ++ t213) ++ t214) ++ t215).size + t216.size) = False := eq_false (Nat.not_lt.2 c60)
    (first | (simp only [ByteArray.size_append, show (⟨#[80, 75, 5, 6]⟩ : ByteArray).size = 4 from rfl] at c60b9) | (try simp only [ByteArray.size_append, show (⟨#[80, 75, 5, 6]⟩ : ByteArray).size = 4 from rfl] at c60b9))
    replace H := Option.bind_eq_some_iff.mp H
    obtain ⟨t217, A610, H⟩ := H
    replace H : (if ((((((x4_1 ++ x5_1) ++ (⟨#[80, 75, 5, 6]⟩ : ByteArray)) ++ t213) ++ t214) ++ t215) ++ t216).size + t217.size ≤ 9223372036854775807 then ((pr_Bytes.f k1 0 2).bind fun t218 => (if (((((((x4_1 ++ x5_1) ++ (⟨#[80, 75, 5, 6]⟩ : ByteArray)) ++ t213) ++ t214) ++ t215) ++ t216) ++ t217).size + t218.size ≤ 9223372036854775807 then (some ((((((((x4_1 ++ x5_1) ++ (⟨#[80, 75, 5, 6]⟩ : ByteArray)) ++ t213) ++ t214) ++ t215) ++ t216) ++ t217) ++ t218, 0)) else (none))) else (none)) = some (r1, r2) := H
    have A61 := qas A610
    clear A610
    by_cases c62 : ((((((x4_1 ++ x5_1) ++ (⟨#[80, 75, 5, 6]⟩ : ByteArray)) ++ t213) ++ t214) ++ t215) ++ t216).size + t217.size ≤ 9223372036854775807
    rotate_left
    ·rw [if_neg c62] at H
     exact absurd H (by simp)
    rw [if_pos c62] at H
    have c62b0 := eq_true c62
    have c62b1 : decide (((((((x4_1 ++ x5_1) ++ (⟨#[80, 75, 5, 6]⟩ : ByteArray)) ++ t213) ++ t214) ++ t215) ++ t216).size + t217.size ≤ 9223372036854775807) = true := decide_eq_true c62
    try have c62b2 : (9223372036854775807 < ((((((x4_1 ++ x5_1) ++ (⟨#[80, 75, 5, 6]⟩ : ByteArray)) ++ t213) ++ t214) ++ t215) ++ t216).size + t217.size) = False := eq_false (Nat.not_lt.2 c62)
    have c62b9 : (9223372036854775807 < ((((((x4_1 ++ x5_1) ++ (⟨#[80, 75, 5, 6]⟩ : ByteArray)) ++ t213) ++ t214) ++ t215) ++ t216).size + t217.size) = False := eq_false (Nat.not_lt.2 c62)
    (first | (simp only [ByteArray.size_append, show (⟨#[80, 75, 5, 6]⟩ : ByteArray).size = 4 from rfl] at c62b9) | (try simp only [ByteArray.size_append, show (⟨#[80, 75, 5, 6]⟩ : ByteArray).size = 4 from rfl] at c62b9))
    replace H := Option.bind_eq_some_iff.mp H
    obtain ⟨t218, A630, H⟩ := H
    replace H : (if (((((((x4_1 ++ x5_1) ++ (⟨#[80, 75, 5, 6]⟩ : ByteArray)) ++ t213) ++ t214) ++ t215) ++ t216) ++ t217).size + t218.size ≤ 9223372036854775807 then (some ((((((((x4_1 ++ x5_1) ++ (⟨#[80, 75, 5, 6]⟩ : ByteArray)) ++ t213) ++ t214) ++ t215) ++ t216) ++ t217) ++ t218, 0)) else (none)) = some (r1, r2) := H
    have A63 := qas A630
    clear A630
    by_cases c64 : (((((((x4_1 ++ x5_1) ++ (⟨#[80, 75, 5, 6]⟩ : ByteArray)) ++ t213) ++ t214) ++ t215) ++ t216) ++ t217).size + t218.size ≤ 9223372036854775807
    rotate_left
    ·rw [if_neg c64] at H
     exact absurd H (by simp)
    rw [if_pos c64] at H
    have c64b0 := eq_true c64
    have c64b1 : decide ((((((((x4_1 ++ x5_1) ++ (⟨#[80, 75, 5, 6]⟩ : ByteArray)) ++ t213) ++ t214) ++ t215) ++ t216) ++ t217).size + t218.size ≤ 9223372036854775807) = true := decide_eq_true c64
    try have c64b2 : (9223372036854775807 < (((((((x4_1 ++ x5_1) ++ (⟨#[80, 75, 5, 6]⟩ : ByteArray)) ++ t213) ++ t214) ++ t215) ++ t216) ++ t217).size + t218.size) = False := eq_false (Nat.not_lt.2 c64)
    have c64b9 : (9223372036854775807 < (((((((x4_1 ++ x5_1) ++ (⟨#[80, 75, 5, 6]⟩ : ByteArray)) ++ t213) ++ t214) ++ t215) ++ t216) ++ t217).size + t218.size) = False := eq_false (Nat.not_lt.2 c64)
    (first | (simp only [ByteArray.size_append, show (⟨#[80, 75, 5, 6]⟩ : ByteArray).size = 4 from rfl] at c64b9) | (try simp only [ByteArray.size_append, show (⟨#[80, 75, 5, 6]⟩ : ByteArray).size = 4 from rfl] at c64b9))
    simp only [Option.some.injEq, Prod.mk.injEq] at H
    obtain ⟨rfl, rfl⟩ := H
    have hcz65_0 : wr.cell? ⟨gb200, 0, none⟩ = some (.slice A0_0 l0_0.length c0_0) := (blk_cell BK200.out 0).trans rfl
    have hfz65_0 := blk_frozen BK200.out 0
    go_wp2_with (first | ((with_reducible refine gate_callee (f := 53) rfl ?_); refine goesL_ (some 74) rfl rfl Tryd.func53 (by kernel_rfl) rfl #[.int .i64 0, .int .i64 4] rfl (by (try simp only [List.map_toArray, List.map_cons, List.map_nil]); first | done | rfl | (simp only [List.length_drop, List.length_take]; rfl)) ?_; (with_reducible refine (pr_Bytes.calls k1 0 4 t213 _ A53.out).mono ?_); rintro e w66 ⟨rfl, hb⟩; refine ⟨_, rfl, ?_⟩; have n0_ := qas (blk_below (g := gb200) (o := .cells #[.slice A0_0 l0_0.length c0_0] 24 (0, 0)) (by (with_reducible repeat (first | refine qkA ?_ _ | refine qkB ?_ | refine qkC ?_ _)); exact BK200.out) hb); have n1_ := qas (below_step (by repeat (first | (with_reducible first | exact HB.out | apply qbA | apply qbB | apply qbC | refine below_set ?_ GE200.out) | exact HB.out)) hb); clear BK200; clear HB; have BK200 := n0_; have HB := n1_; clear n0_ n1_; (try clear hb); (try clear hb2); (try clear hk); (try clear hi)) | ((with_reducible refine gate_callee (f := 53) rfl ?_); refine goesL_ (some 77) rfl rfl Tryd.func53 (by kernel_rfl) rfl #[.int .i64 (l0_0.length : Int), .int .i64 2] rfl (by (try simp only [List.map_toArray, List.map_cons, List.map_nil]); first | done | rfl | (simp only [List.length_drop, List.length_take]; rfl)) ?_; (with_reducible refine (pr_Bytes.calls k1 (l0_0.length : Int) 2 t214 _ A55.out).mono ?_); rintro e w67 ⟨rfl, hb⟩; refine ⟨_, rfl, ?_⟩; have n0_ := qas (blk_below (g := gb200) (o := .cells #[.slice A0_0 l0_0.length c0_0] 24 (0, 0)) (by (with_reducible repeat (first | refine qkA ?_ _ | refine qkB ?_ | refine qkC ?_ _)); exact BK200.out) hb); have n1_ := qas (below_step (by repeat (first | (with_reducible first | exact HB.out | apply qbA | apply qbB | apply qbC | refine below_set ?_ GE200.out) | exact HB.out)) hb); clear BK200; clear HB; have BK200 := n0_; have HB := n1_; clear n0_ n1_; (try clear hb); (try clear hb2); (try clear hk); (try clear hi)) | ((with_reducible refine gate_callee (f := 53) rfl ?_); refine goesL_ (some 80) rfl rfl Tryd.func53 (by kernel_rfl) rfl #[.int .i64 (l0_0.length : Int), .int .i64 2] rfl (by (try simp only [List.map_toArray, List.map_cons, List.map_nil]); first | done | rfl | (simp only [List.length_drop, List.length_take]; rfl)) ?_; (with_reducible refine (pr_Bytes.calls k1 (l0_0.length : Int) 2 t215 _ A57.out).mono ?_); rintro e w68 ⟨rfl, hb⟩; refine ⟨_, rfl, ?_⟩; have n0_ := qas (blk_below (g := gb200) (o := .cells #[.slice A0_0 l0_0.length c0_0] 24 (0, 0)) (by (with_reducible repeat (first | refine qkA ?_ _ | refine qkB ?_ | refine qkC ?_ _)); exact BK200.out) hb); have n1_ := qas (below_step (by repeat (first | (with_reducible first | exact HB.out | apply qbA | apply qbB | apply qbC | refine below_set ?_ GE200.out) | exact HB.out)) hb); clear BK200; clear HB; have BK200 := n0_; have HB := n1_; clear n0_ n1_; (try clear hb); (try clear hb2); (try clear hk); (try clear hi)) | ((with_reducible refine gate_callee (f := 53) rfl ?_); refine goesL_ (some 84) rfl rfl Tryd.func53 (by kernel_rfl) rfl #[.int .i64 (x5_1.size : Int), .int .i64 4] rfl (by (try simp only [List.map_toArray, List.map_cons, List.map_nil]); first | done | rfl | (simp only [List.length_drop, List.length_take]; rfl)) ?_; (with_reducible refine (pr_Bytes.calls k1 (x5_1.size : Int) 4 t216 _ A59.out).mono ?_); rintro e w69 ⟨rfl, hb⟩; refine ⟨_, rfl, ?_⟩; have n0_ := qas (blk_below (g := gb200) (o := .cells #[.slice A0_0 l0_0.length c0_0] 24 (0, 0)) (by (with_reducible repeat (first | refine qkA ?_ _ | refine qkB ?_ | refine qkC ?_ _)); exact BK200.out) hb); have n1_ := qas (below_step (by repeat (first | (with_reducible first | exact HB.out | apply qbA | apply qbB | apply qbC | refine below_set ?_ GE200.out) | exact HB.out)) hb); clear BK200; clear HB; have BK200 := n0_; have HB := n1_; clear n0_ n1_; (try clear hb); (try clear hb2); (try clear hk); (try clear hi)) | ((with_reducible refine gate_callee (f := 53) rfl ?_); refine goesL_ (some 88) rfl rfl Tryd.func53 (by kernel_rfl) rfl #[.int .i64 (x4_1.size : Int), .int .i64 4] rfl (by (try simp only [List.map_toArray, List.map_cons, List.map_nil]); first | done | rfl | (simp only [List.length_drop, List.length_take]; rfl)) ?_; (with_reducible refine (pr_Bytes.calls k1 (x4_1.size : Int) 4 t217 _ A61.out).mono ?_); rintro e w70 ⟨rfl, hb⟩; refine ⟨_, rfl, ?_⟩; have n0_ := qas (blk_below (g := gb200) (o := .cells #[.slice A0_0 l0_0.length c0_0] 24 (0, 0)) (by (with_reducible repeat (first | refine qkA ?_ _ | refine qkB ?_ | refine qkC ?_ _)); exact BK200.out) hb); have n1_ := qas (below_step (by repeat (first | (with_reducible first | exact HB.out | apply qbA | apply qbB | apply qbC | refine below_set ?_ GE200.out) | exact HB.out)) hb); clear BK200; clear HB; have BK200 := n0_; have HB := n1_; clear n0_ n1_; (try clear hb); (try clear hb2); (try clear hk); (try clear hi)) | ((with_reducible refine gate_callee (f := 53) rfl ?_); refine goesL_ (some 90) rfl rfl Tryd.func53 (by kernel_rfl) rfl #[.int .i64 0, .int .i64 2] rfl (by (try simp only [List.map_toArray, List.map_cons, List.map_nil]); first | done | rfl | (simp only [List.length_drop, List.length_take]; rfl)) ?_; (with_reducible refine (pr_Bytes.calls k1 0 2 t218 _ A63.out).mono ?_); rintro e w71 ⟨rfl, hb⟩; refine ⟨_, rfl, ?_⟩; have n0_ := qas (blk_below (g := gb200) (o := .cells #[.slice A0_0 l0_0.length c0_0] 24 (0, 0)) (by (with_reducible repeat (first | refine qkA ?_ _ | refine qkB ?_ | refine qkC ?_ _)); exact BK200.out) hb); have n1_ := qas (below_step (by repeat (first | (with_reducible first | exact HB.out | apply qbA | apply qbB | apply qbC | refine below_set ?_ GE200.out) | exact HB.out)) hb); clear BK200; clear HB; have BK200 := n0_; have HB := n1_; clear n0_ n1_; (try clear hb); (try clear hb2); (try clear hk); (try clear hi)))
    go_ret2
    exact ⟨by first | rfl | (simp [errW_none, errW_some] <;> rfl) | (simp [*, errW_none, errW_some] <;> rfl), by repeat (first | (with_reducible first | exact HB.out | apply qbA | apply qbB | apply qbC | refine below_set ?_ GE200.out) | exact HB.out)⟩
   rw [if_pos c16] at H
   have c16b0 : decide (x6_1 < (l0_0.length : Int)) = true := decide_eq_true c16
   clear c16
   by_cases c17 : 0 ≤ x6_1
   rotate_left
   ·rw [if_neg c17] at H
    exact absurd H (by simp)
   rw [if_pos c17] at H
   have c17b0 : decide (0 ≤ x6_1) = true := decide_eq_true c17
   clear c17
   replace H := Option.bind_eq_some_iff.mp H
   obtain ⟨⟨t205, t206⟩, A180, H⟩ := H
   replace H : (if x5_1.size + 4 ≤ 9223372036854775807 then ((pr_Bytes.f k1 20 2).bind fun t207 => (if (x5_1 ++ (⟨#[80, 75, 1, 2]⟩ : ByteArray)).size + t207.size ≤ 9223372036854775807 then ((pr_common.f k1 ((rd_T39 l0_0 x6_1).f0) ((rd_T39 l0_0 x6_1).f1) ((rd_T39 l0_0 x6_1).f2) ((rd_T39 l0_0 x6_1).f3) ((rd_T39 l0_0 x6_1).f4) ((rd_T39 l0_0 x6_1).f5) ((rd_T39 l0_0 x6_1).f6) ((rd_T39 l0_0 x6_1).f7) ((rd_T39 l0_0 x6_1).f8)).bind fun t208 => (if ((x5_1 ++ (⟨#[80, 75, 1, 2]⟩ : ByteArray)) ++ t207).size + t208.size ≤ 9223372036854775807 then ((pr_Bytes.f k1 0 6).bind fun t209 => (if (((x5_1 ++ (⟨#[80, 75, 1, 2]⟩ : ByteArray)) ++ t207) ++ t208).size + t209.size ≤ 9223372036854775807 then ((pr_Bytes.f k1 0 4).bind fun t210 => (if ((((x5_1 ++ (⟨#[80, 75, 1, 2]⟩ : ByteArray)) ++ t207) ++ t208) ++ t209).size + t210.size ≤ 9223372036854775807 then ((pr_Bytes.f k1 (x4_1.size : Int) 4).bind fun t211 => (if (((((x5_1 ++ (⟨#[80, 75, 1, 2]⟩ : ByteArray)) ++ t207) ++ t208) ++ t209) ++ t210).size + t211.size ≤ 9223372036854775807 then (if ((((((x5_1 ++ (⟨#[80, 75, 1, 2]⟩ : ByteArray)) ++ t207) ++ t208) ++ t209) ++ t210) ++ t211).size + ((rd_T39 l0_0 x6_1).f0).size ≤ 9223372036854775807 then (if (((((((x5_1 ++ (⟨#[80, 75, 1, 2]⟩ : ByteArray)) ++ t207) ++ t208) ++ t209) ++ t210) ++ t211) ++ ((rd_T39 l0_0 x6_1).f0)).size + t205.size ≤ 9223372036854775807 then (if x4_1.size + 4 ≤ 9223372036854775807 then ((pr_common.f k1 ((rd_T39 l0_0 x6_1).f0) ((rd_T39 l0_0 x6_1).f1) ((rd_T39 l0_0 x6_1).f2) ((rd_T39 l0_0 x6_1).f3) ((rd_T39 l0_0 x6_1).f4) ((rd_T39 l0_0 x6_1).f5) ((rd_T39 l0_0 x6_1).f6) ((rd_T39 l0_0 x6_1).f7) ((rd_T39 l0_0 x6_1).f8)).bind fun t212 => (if (x4_1 ++ (⟨#[80, 75, 3, 4]⟩ : ByteArray)).size + t212.size ≤ 9223372036854775807 then (if ((x4_1 ++ (⟨#[80, 75, 3, 4]⟩ : ByteArray)) ++ t212).size + ((rd_T39 l0_0 x6_1).f0).size ≤ 9223372036854775807 then (if (((x4_1 ++ (⟨#[80, 75, 3, 4]⟩ : ByteArray)) ++ t212) ++ ((rd_T39 l0_0 x6_1).f0)).size + t205.size ≤ 9223372036854775807 then (if ((((x4_1 ++ (⟨#[80, 75, 3, 4]⟩ : ByteArray)) ++ t212) ++ ((rd_T39 l0_0 x6_1).f0)) ++ t205).size + ((rd_T39 l0_0 x6_1).f6).size ≤ 9223372036854775807 then (pr_PutZip.l0 k1 (((((x4_1 ++ (⟨#[80, 75, 3, 4]⟩ : ByteArray)) ++ t212) ++ ((rd_T39 l0_0 x6_1).f0)) ++ t205) ++ ((rd_T39 l0_0 x6_1).f6)) ((((((((x5_1 ++ (⟨#[80, 75, 1, 2]⟩ : ByteArray)) ++ t207) ++ t208) ++ t209) ++ t210) ++ t211) ++ ((rd_T39 l0_0 x6_1).f0)) ++ t205) (wrap64 (x6_1 + 1)) l0_0) else (none)) else (none)) else (none)) else (none))) else (none)) else (none)) else (none)) else (none))) else (none))) else (none))) else (none))) else (none))) else (none)) = some (r1, r2) := H
   have A18 := qas A180
   clear A180
   by_cases c19 : x5_1.size + 4 ≤ 9223372036854775807
   rotate_left
   ·rw [if_neg c19] at H
    exact absurd H (by simp)
   rw [if_pos c19] at H
   have c19b0 := eq_true c19
   have c19b1 : decide (x5_1.size + 4 ≤ 9223372036854775807) = true := decide_eq_true c19
   try have c19b2 : (9223372036854775807 < x5_1.size + 4) = False := eq_false (Nat.not_lt.2 c19)
   replace H := Option.bind_eq_some_iff.mp H
   obtain ⟨t207, A200, H⟩ := H
   replace H : (if (x5_1 ++ (⟨#[80, 75, 1, 2]⟩ : ByteArray)).size + t207.size ≤ 9223372036854775807 then ((pr_common.f k1 ((rd_T39 l0_0 x6_1).f0) ((rd_T39 l0_0 x6_1).f1) ((rd_T39 l0_0 x6_1).f2) ((rd_T39 l0_0 x6_1).f3) ((rd_T39 l0_0 x6_1).f4) ((rd_T39 l0_0 x6_1).f5) ((rd_T39 l0_0 x6_1).f6) ((rd_T39 l0_0 x6_1).f7) ((rd_T39 l0_0 x6_1).f8)).bind fun t208 => (if ((x5_1 ++ (⟨#[80, 75, 1, 2]⟩ : ByteArray)) ++ t207).size + t208.size ≤ 9223372036854775807 then ((pr_Bytes.f k1 0 6).bind fun t209 => (if (((x5_1 ++ (⟨#[80, 75, 1, 2]⟩ : ByteArray)) ++ t207) ++ t208).size + t209.size ≤ 9223372036854775807 then ((pr_Bytes.f k1 0 4).bind fun t210 => (if ((((x5_1 ++ (⟨#[80, 75, 1, 2]⟩ : ByteArray)) ++ t207) ++ t208) ++ t209).size + t210.size ≤ 9223372036854775807 then ((pr_Bytes.f k1 (x4_1.size : Int) 4).bind fun t211 => (if (((((x5_1 ++ (⟨#[80, 75, 1, 2]⟩ : ByteArray)) ++ t207) ++ t208) ++ t209) ++ t210).size + t211.size ≤ 9223372036854775807 then (if ((((((x5_1 ++ (⟨#[80, 75, 1, 2]⟩ : ByteArray)) ++ t207) ++ t208) ++ t209) ++ t210) ++ t211).size + ((rd_T39 l0_0 x6_1).f0).size ≤ 9223372036854775807 then (if (((((((x5_1 ++ (⟨#[80, 75, 1, 2]⟩ : ByteArray)) ++ t207) ++ t208) ++ t209) ++ t210) ++ t211) ++ ((rd_T39 l0_0 x6_1).f0)).size + t205.size ≤ 9223372036854775807 then (if x4_1.size + 4 ≤ 9223372036854775807 then ((pr_common.f k1 ((rd_T39 l0_0 x6_1).f0) ((rd_T39 l0_0 x6_1).f1) ((rd_T39 l0_0 x6_1).f2) ((rd_T39 l0_0 x6_1).f3) ((rd_T39 l0_0 x6_1).f4) ((rd_T39 l0_0 x6_1).f5) ((rd_T39 l0_0 x6_1).f6) ((rd_T39 l0_0 x6_1).f7) ((rd_T39 l0_0 x6_1).f8)).bind fun t212 => (if (x4_1 ++ (⟨#[80, 75, 3, 4]⟩ : ByteArray)).size + t212.size ≤ 9223372036854775807 then (if ((x4_1 ++ (⟨#[80, 75, 3, 4]⟩ : ByteArray)) ++ t212).size + ((rd_T39 l0_0 x6_1).f0).size ≤ 9223372036854775807 then (if (((x4_1 ++ (⟨#[80, 75, 3, 4]⟩ : ByteArray)) ++ t212) ++ ((rd_T39 l0_0 x6_1).f0)).size + t205.size ≤ 9223372036854775807 then (if ((((x4_1 ++ (⟨#[80, 75, 3, 4]⟩ : ByteArray)) ++ t212) ++ ((rd_T39 l0_0 x6_1).f0)) ++ t205).size + ((rd_T39 l0_0 x6_1).f6).size ≤ 9223372036854775807 then (pr_PutZip.l0 k1 (((((x4_1 ++ (⟨#[80, 75, 3, 4]⟩ : ByteArray)) ++ t212) ++ ((rd_T39 l0_0 x6_1).f0)) ++ t205) ++ ((rd_T39 l0_0 x6_1).f6)) ((((((((x5_1 ++ (⟨#[80, 75, 1, 2]⟩ : ByteArray)) ++ t207) ++ t208) ++ t209) ++ t210) ++ t211) ++ ((rd_T39 l0_0 x6_1).f0)) ++ t205) (wrap64 (x6_1 + 1)) l0_0) else (none)) else (none)) else (none)) else (none))) else (none)) else (none)) else (none)) else (none))) else (none))) else (none))) else (none))) else (none)) = some (r1, r2) := H
   have A20 := qas A200
   clear A200
   by_cases c21 : (x5_1 ++ (⟨#[80, 75, 1, 2]⟩ : ByteArray)).size + t207.size ≤ 9223372036854775807
   rotate_left
   ·rw [if_neg c21] at H
    exact absurd H (by simp)
   rw [if_pos c21] at H
   have c21b0 := eq_true c21
   have c21b1 : decide ((x5_1 ++ (⟨#[80, 75, 1, 2]⟩ : ByteArray)).size + t207.size ≤ 9223372036854775807) = true := decide_eq_true c21
   try have c21b2 : (9223372036854775807 < (x5_1 ++ (⟨#[80, 75, 1, 2]⟩ : ByteArray)).size + t207.size) = False := eq_false (Nat.not_lt.2 c21)
   have c21b9 : (9223372036854775807 < (x5_1 ++ (⟨#[80, 75, 1, 2]⟩ : ByteArray)).size + t207.size) = False := eq_false (Nat.not_lt.2 c21)
   (first | (simp only [ByteArray.size_append, show (⟨#[80, 75, 1, 2]⟩ : ByteArray).size = 4 from rfl] at c21b9) | (try simp only [ByteArray.size_append, show (⟨#[80, 75, 1, 2]⟩ : ByteArray).size = 4 from rfl] at c21b9))
   replace H := Option.bind_eq_some_iff.mp H
   obtain ⟨t208, A220, H⟩ := H
   replace H : (if ((x5_1 ++ (⟨#[80, 75, 1, 2]⟩ : ByteArray)) ++ t207).size + t208.size ≤ 9223372036854775807 then ((pr_Bytes.f k1 0 6).bind fun t209 => (if (((x5_1 ++ (⟨#[80, 75, 1, 2]⟩ : ByteArray)) ++ t207) ++ t208).size + t209.size ≤ 9223372036854775807 then ((pr_Bytes.f k1 0 4).bind fun t210 => (if ((((x5_1 ++ (⟨#[80, 75, 1, 2]⟩ : ByteArray)) ++ t207) ++ t208) ++ t209).size + t210.size ≤ 9223372036854775807 then ((pr_Bytes.f k1 (x4_1.size : Int) 4).bind fun t211 => (if (((((x5_1 ++ (⟨#[80, 75, 1, 2]⟩ : ByteArray)) ++ t207) ++ t208) ++ t209) ++ t210).size + t211.size ≤ 9223372036854775807 then (if ((((((x5_1 ++ (⟨#[80, 75, 1, 2]⟩ : ByteArray)) ++ t207) ++ t208) ++ t209) ++ t210) ++ t211).size + ((rd_T39 l0_0 x6_1).f0).size ≤ 9223372036854775807 then (if (((((((x5_1 ++ (⟨#[80, 75, 1, 2]⟩ : ByteArray)) ++ t207) ++ t208) ++ t209) ++ t210) ++ t211) ++ ((rd_T39 l0_0 x6_1).f0)).size + t205.size ≤ 9223372036854775807 then (if x4_1.size + 4 ≤ 9223372036854775807 then ((pr_common.f k1 ((rd_T39 l0_0 x6_1).f0) ((rd_T39 l0_0 x6_1).f1) ((rd_T39 l0_0 x6_1).f2) ((rd_T39 l0_0 x6_1).f3) ((rd_T39 l0_0 x6_1).f4) ((rd_T39 l0_0 x6_1).f5) ((rd_T39 l0_0 x6_1).f6) ((rd_T39 l0_0 x6_1).f7) ((rd_T39 l0_0 x6_1).f8)).bind fun t212 => (if (x4_1 ++ (⟨#[80, 75, 3, 4]⟩ : ByteArray)).size + t212.size ≤ 9223372036854775807 then (if ((x4_1 ++ (⟨#[80, 75, 3, 4]⟩ : ByteArray)) ++ t212).size + ((rd_T39 l0_0 x6_1).f0).size ≤ 9223372036854775807 then (if (((x4_1 ++ (⟨#[80, 75, 3, 4]⟩ : ByteArray)) ++ t212) ++ ((rd_T39 l0_0 x6_1).f0)).size + t205.size ≤ 9223372036854775807 then (if ((((x4_1 ++ (⟨#[80, 75, 3, 4]⟩ : ByteArray)) ++ t212) ++ ((rd_T39 l0_0 x6_1).f0)) ++ t205).size + ((rd_T39 l0_0 x6_1).f6).size ≤ 9223372036854775807 then (pr_PutZip.l0 k1 (((((x4_1 ++ (⟨#[80, 75, 3, 4]⟩ : ByteArray)) ++ t212) ++ ((rd_T39 l0_0 x6_1).f0)) ++ t205) ++ ((rd_T39 l0_0 x6_1).f6)) ((((((((x5_1 ++ (⟨#[80, 75, 1, 2]⟩ : ByteArray)) ++ t207) ++ t208) ++ t209) ++ t210) ++ t211) ++ ((rd_T39 l0_0 x6_1).f0)) ++ t205) (wrap64 (x6_1 + 1)) l0_0) else (none)) else (none)) else (none)) else (none))) else (none)) else (none)) else (none)) else (none))) else (none))) else (none))) else (none)) = some (r1, r2) := H
   have A22 := qas A220
   clear A220
   by_cases c23 : ((x5_1 ++ (⟨#[80, 75, 1, 2]⟩ : ByteArray)) ++ t207).size + t208.size ≤ 9223372036854775807
   rotate_left
   ·rw [if_neg c23] at H
    exact absurd H (by simp)
   rw [if_pos c23] at H
   have c23b0 := eq_true c23
   have c23b1 : decide (((x5_1 ++ (⟨#[80, 75, 1, 2]⟩ : ByteArray)) ++ t207).size + t208.size ≤ 9223372036854775807) = true := decide_eq_true c23
   try have c23b2 : (9223372036854775807 < ((x5_1 ++ (⟨#[80, 75, 1, 2]⟩ : ByteArray)) ++ t207).size + t208.size) = False := eq_false (Nat.not_lt.2 c23)
   have c23b9 : (9223372036854775807 < ((x5_1 ++ (⟨#[80, 75, 1, 2]⟩ : ByteArray)) ++ t207).size + t208.size) = False := eq_false (Nat.not_lt.2 c23)
   (first | (simp only [ByteArray.size_append, show (⟨#[80, 75, 1, 2]⟩ : ByteArray).size = 4 from rfl] at c23b9) | (try simp only [ByteArray.size_append, show (⟨#[80, 75, 1, 2]⟩ : ByteArray).size = 4 from rfl] at c23b9))
   replace H := Option.bind_eq_some_iff.mp H
   obtain ⟨t209, A240, H⟩ := H
   replace H : (if (((x5_1 ++ (⟨#[80, 75, 1, 2]⟩ : ByteArray)) ++ t207) ++ t208).size + t209.size ≤ 9223372036854775807 then ((pr_Bytes.f k1 0 4).bind fun t210 => (if ((((x5_1 ++ (⟨#[80, 75, 1, 2]⟩ : ByteArray)) ++ t207) ++ t208) ++ t209).size + t210.size ≤ 9223372036854775807 then ((pr_Bytes.f k1 (x4_1.size : Int) 4).bind fun t211 => (if (((((x5_1 ++ (⟨#[80, 75, 1, 2]⟩ : ByteArray)) ++ t207) ++ t208) ++ t209) ++ t210).size + t211.size ≤ 9223372036854775807 then (if ((((((x5_1 ++ (⟨#[80, 75, 1, 2]⟩ : ByteArray)) ++ t207) ++ t208) ++ t209) ++ t210) ++ t211).size + ((rd_T39 l0_0 x6_1).f0).size ≤ 9223372036854775807 then (if (((((((x5_1 ++ (⟨#[80, 75, 1, 2]⟩ : ByteArray)) ++ t207) ++ t208) ++ t209) ++ t210) ++ t211) ++ ((rd_T39 l0_0 x6_1).f0)).size + t205.size ≤ 9223372036854775807 then (if x4_1.size + 4 ≤ 9223372036854775807 then ((pr_common.f k1 ((rd_T39 l0_0 x6_1).f0) ((rd_T39 l0_0 x6_1).f1) ((rd_T39 l0_0 x6_1).f2) ((rd_T39 l0_0 x6_1).f3) ((rd_T39 l0_0 x6_1).f4) ((rd_T39 l0_0 x6_1).f5) ((rd_T39 l0_0 x6_1).f6) ((rd_T39 l0_0 x6_1).f7) ((rd_T39 l0_0 x6_1).f8)).bind fun t212 => (if (x4_1 ++ (⟨#[80, 75, 3, 4]⟩ : ByteArray)).size + t212.size ≤ 9223372036854775807 then (if ((x4_1 ++ (⟨#[80, 75, 3, 4]⟩ : ByteArray)) ++ t212).size + ((rd_T39 l0_0 x6_1).f0).size ≤ 9223372036854775807 then (if (((x4_1 ++ (⟨#[80, 75, 3, 4]⟩ : ByteArray)) ++ t212) ++ ((rd_T39 l0_0 x6_1).f0)).size + t205.size ≤ 9223372036854775807 then (if ((((x4_1 ++ (⟨#[80, 75, 3, 4]⟩ : ByteArray)) ++ t212) ++ ((rd_T39 l0_0 x6_1).f0)) ++ t205).size + ((rd_T39 l0_0 x6_1).f6).size ≤ 9223372036854775807 then (pr_PutZip.l0 k1 (((((x4_1 ++ (⟨#[80, 75, 3, 4]⟩ : ByteArray)) ++ t212) ++ ((rd_T39 l0_0 x6_1).f0)) ++ t205) ++ ((rd_T39 l0_0 x6_1).f6)) ((((((((x5_1 ++ (⟨#[80, 75, 1, 2]⟩ : ByteArray)) ++ t207) ++ t208) ++ t209) ++ t210) ++ t211) ++ ((rd_T39 l0_0 x6_1).f0)) ++ t205) (wrap64 (x6_1 + 1)) l0_0) else (none)) else (none)) else (none)) else (none))) else (none)) else (none)) else (none)) else (none))) else (none))) else (none)) = some (r1, r2) := H
   have A24 := qas A240
   clear A240
   by_cases c25 : (((x5_1 ++ (⟨#[80, 75, 1, 2]⟩ : ByteArray)) ++ t207) ++ t208).size + t209.size ≤ 9223372036854775807
   rotate_left
   ·rw [if_neg c25] at H
    exact absurd H (by simp)
   rw [if_pos c25] at H
   have c25b0 := eq_true c25
   have c25b1 : decide ((((x5_1 ++ (⟨#[80, 75, 1, 2]⟩ : ByteArray)) ++ t207) ++ t208).size + t209.size ≤ 9223372036854775807) = true := decide_eq_true c25
   try have c25b2 : (9223372036854775807 < (((x5_1 ++ (⟨#[80, 75, 1, 2]⟩ : ByteArray)) ++ t207) ++ t208).size + t209.size) = False := eq_false (Nat.not_lt.2 c25)
   have c25b9 : (9223372036854775807 < (((x5_1 ++ (⟨#[80, 75, 1, 2]⟩ : ByteArray)) ++ t207) ++ t208).size + t209.size) = False := eq_false (Nat.not_lt.2 c25)
   (first | (simp only [ByteArray.size_append, show (⟨#[80, 75, 1, 2]⟩ : ByteArray).size = 4 from rfl] at c25b9) | (try simp only [ByteArray.size_append, show (⟨#[80, 75, 1, 2]⟩ : ByteArray).size = 4 from rfl] at c25b9))
   replace H := Option.bind_eq_some_iff.mp H
   obtain ⟨t210, A260, H⟩ := H
   replace H : (if ((((x5_1 ++ (⟨#[80, 75, 1, 2]⟩ : ByteArray)) ++ t207) ++ t208) ++ t209).size + t210.size ≤ 9223372036854775807 then ((pr_Bytes.f k1 (x4_1.size : Int) 4).bind fun t211 => (if (((((x5_1 ++ (⟨#[80, 75, 1, 2]⟩ : ByteArray)) ++ t207) ++ t208) ++ t209) ++ t210).size + t211.size ≤ 9223372036854775807 then (if ((((((x5_1 ++ (⟨#[80, 75, 1, 2]⟩ : ByteArray)) ++ t207) ++ t208) ++ t209) ++ t210) ++ t211).size + ((rd_T39 l0_0 x6_1).f0).size ≤ 9223372036854775807 then (if (((((((x5_1 ++ (⟨#[80, 75, 1, 2]⟩ : ByteArray)) ++ t207) ++ t208) ++ t209) ++ t210) ++ t211) ++ ((rd_T39 l0_0 x6_1).f0)).size + t205.size ≤ 9223372036854775807 then (if x4_1.size + 4 ≤ 9223372036854775807 then ((pr_common.f k1 ((rd_T39 l0_0 x6_1).f0) ((rd_T39 l0_0 x6_1).f1) ((rd_T39 l0_0 x6_1).f2) ((rd_T39 l0_0 x6_1).f3) ((rd_T39 l0_0 x6_1).f4) ((rd_T39 l0_0 x6_1).f5) ((rd_T39 l0_0 x6_1).f6) ((rd_T39 l0_0 x6_1).f7) ((rd_T39 l0_0 x6_1).f8)).bind fun t212 => (if (x4_1 ++ (⟨#[80, 75, 3, 4]⟩ : ByteArray)).size + t212.size ≤ 9223372036854775807 then (if ((x4_1 ++ (⟨#[80, 75, 3, 4]⟩ : ByteArray)) ++ t212).size + ((rd_T39 l0_0 x6_1).f0).size ≤ 9223372036854775807 then (if (((x4_1 ++ (⟨#[80, 75, 3, 4]⟩ : ByteArray)) ++ t212) ++ ((rd_T39 l0_0 x6_1).f0)).size + t205.size ≤ 9223372036854775807 then (if ((((x4_1 ++ (⟨#[80, 75, 3, 4]⟩ : ByteArray)) ++ t212) ++ ((rd_T39 l0_0 x6_1).f0)) ++ t205).size + ((rd_T39 l0_0 x6_1).f6).size ≤ 9223372036854775807 then (pr_PutZip.l0 k1 (((((x4_1 ++ (⟨#[80, 75, 3, 4]⟩ : ByteArray)) ++ t212) ++ ((rd_T39 l0_0 x6_1).f0)) ++ t205) ++ ((rd_T39 l0_0 x6_1).f6)) ((((((((x5_1 ++ (⟨#[80, 75, 1, 2]⟩ : ByteArray)) ++ t207) ++ t208) ++ t209) ++ t210) ++ t211) ++ ((rd_T39 l0_0 x6_1).f0)) ++ t205) (wrap64 (x6_1 + 1)) l0_0) else (none)) else (none)) else (none)) else (none))) else (none)) else (none)) else (none)) else (none))) else (none)) = some (r1, r2) := H
   have A26 := qas A260
   clear A260
   by_cases c27 : ((((x5_1 ++ (⟨#[80, 75, 1, 2]⟩ : ByteArray)) ++ t207) ++ t208) ++ t209).size + t210.size ≤ 9223372036854775807
   rotate_left
   ·rw [if_neg c27] at H
    exact absurd H (by simp)
   rw [if_pos c27] at H
   have c27b0 := eq_true c27
   have c27b1 : decide (((((x5_1 ++ (⟨#[80, 75, 1, 2]⟩ : ByteArray)) ++ t207) ++ t208) ++ t209).size + t210.size ≤ 9223372036854775807) = true := decide_eq_true c27
   try have c27b2 : (9223372036854775807 < ((((x5_1 ++ (⟨#[80, 75, 1, 2]⟩ : ByteArray)) ++ t207) ++ t208) ++ t209).size + t210.size) = False := eq_false (Nat.not_lt.2 c27)
   have c27b9 : (9223372036854775807 < ((((x5_1 ++ (⟨#[80, 75, 1, 2]⟩ : ByteArray)) ++ t207) ++ t208) ++ t209).size + t210.size) = False := eq_false (Nat.not_lt.2 c27)
   (first | (simp only [ByteArray.size_append, show (⟨#[80, 75, 1, 2]⟩ : ByteArray).size = 4 from rfl] at c27b9) | (try simp only [ByteArray.size_append, show (⟨#[80, 75, 1, 2]⟩ : ByteArray).size = 4 from rfl] at c27b9))
   replace H := Option.bind_eq_some_iff.mp H
   obtain ⟨t211, A280, H⟩ := H
   replace H : (if (((((x5_1 ++ (⟨#[80, 75, 1, 2]⟩ : ByteArray)) ++ t207) ++ t208) ++ t209) ++ t210).size + t211.size ≤ 9223372036854775807 then (if ((((((x5_1 ++ (⟨#[80, 75, 1, 2]⟩ : ByteArray)) ++ t207) ++ t208) ++ t209) ++ t210) ++ t211).size + ((rd_T39 l0_0 x6_1).f0).size ≤ 9223372036854775807 then (if (((((((x5_1 ++ (⟨#[80, 75, 1, 2]⟩ : ByteArray)) ++ t207) ++ t208) ++ t209) ++ t210) ++ t211) ++ ((rd_T39 l0_0 x6_1).f0)).size + t205.size ≤ 9223372036854775807 then (if x4_1.size + 4 ≤ 9223372036854775807 then ((pr_common.f k1 ((rd_T39 l0_0 x6_1).f0) ((rd_T39 l0_0 x6_1).f1) ((rd_T39 l0_0 x6_1).f2) ((rd_T39 l0_0 x6_1).f3) ((rd_T39 l0_0 x6_1).f4) ((rd_T39 l0_0 x6_1).f5) ((rd_T39 l0_0 x6_1).f6) ((rd_T39 l0_0 x6_1).f7) ((rd_T39 l0_0 x6_1).f8)).bind fun t212 => (if (x4_1 ++ (⟨#[80, 75, 3, 4]⟩ : ByteArray)).size + t212.size ≤ 9223372036854775807 then (if ((x4_1 ++ (⟨#[80, 75, 3, 4]⟩ : ByteArray)) ++ t212).size + ((rd_T39 l0_0 x6_1).f0).size ≤ 9223372036854775807 then (if (((x4_1 ++ (⟨#[80, 75, 3, 4]⟩ : ByteArray)) ++ t212) ++ ((rd_T39 l0_0 x6_1).f0)).size + t205.size ≤ 9223372036854775807 then (if ((((x4_1 ++ (⟨#[80, 75, 3, 4]⟩ : ByteArray)) ++ t212) ++ ((rd_T39 l0_0 x6_1).f0)) ++ t205).size + ((rd_T39 l0_0 x6_1).f6).size ≤ 9223372036854775807 then (pr_PutZip.l0 k1 (((((x4_1 ++ (⟨#[80, 75, 3, 4]⟩ : ByteArray)) ++ t212) ++ ((rd_T39 l0_0 x6_1).f0)) ++ t205) ++ ((rd_T39 l0_0 x6_1).f6)) ((((((((x5_1 ++ (⟨#[80, 75, 1, 2]⟩ : ByteArray)) ++ t207) ++ t208) ++ t209) ++ t210) ++ t211) ++ ((rd_T39 l0_0 x6_1).f0)) ++ t205) (wrap64 (x6_1 + 1)) l0_0) else (none)) else (none)) else (none)) else (none))) else (none)) else (none)) else (none)) else (none)) = some (r1, r2) := H
   have A28 := qas A280
   clear A280
   by_cases c29 : (((((x5_1 ++ (⟨#[80, 75, 1, 2]⟩ : ByteArray)) ++ t207) ++ t208) ++ t209) ++ t210).size + t211.size ≤ 9223372036854775807
   rotate_left
   ·rw [if_neg c29] at H
    exact absurd H (by simp)
   rw [if_pos c29] at H
   have c29b0 := eq_true c29
   have c29b1 : decide ((((((x5_1 ++ (⟨#[80, 75, 1, 2]⟩ : ByteArray)) ++ t207) ++ t208) ++ t209) ++ t210).size + t211.size ≤ 9223372036854775807) = true := decide_eq_true c29
   try have c29b2 : (9223372036854775807 < (((((x5_1 ++ (⟨#[80, 75, 1, 2]⟩ : ByteArray)) ++ t207) ++ t208) ++ t209) ++ t210).size + t211.size) = False := eq_false (Nat.not_lt.2 c29)
   have c29b9 : (9223372036854775807 < (((((x5_1 ++ (⟨#[80, 75, 1, 2]⟩ : ByteArray)) ++ t207) ++ t208) ++ t209) ++ t210).size + t211.size) = False := eq_false (Nat.not_lt.2 c29)
   (first | (simp only [ByteArray.size_append, show (⟨#[80, 75, 1, 2]⟩ : ByteArray).size = 4 from rfl] at c29b9) | (try simp only [ByteArray.size_append, show (⟨#[80, 75, 1, 2]⟩ : ByteArray).size = 4 from rfl] at c29b9))
   by_cases c30 : ((((((x5_1 ++ (⟨#[80, 75, 1, 2]⟩ : ByteArray)) ++ t207) ++ t208) ++ t209) ++ t210) ++ t211).size + ((rd_T39 l0_0 x6_1).f0).size ≤ 9223372036854775807
   rotate_left
   ·rw [if_neg c30] at H
    exact absurd H (by simp)
   rw [if_pos c30] at H
   have c30b0 := eq_true c30
   have c30b1 : decide (((((((x5_1 ++ (⟨#[80, 75, 1, 2]⟩ : ByteArray)) ++ t207) ++ t208) ++ t209) ++ t210) ++ t211).size + ((rd_T39 l0_0 x6_1).f0).size ≤ 9223372036854775807) = true := decide_eq_true c30
   try have c30b2 : (9223372036854775807 < ((((((x5_1 ++ (⟨#[80, 75, 1, 2]⟩ : ByteArray)) ++ t207) ++ t208) ++ t209) ++ t210) ++ t211).size + ((rd_T39 l0_0 x6_1).f0).size) = False := eq_false (Nat.not_lt.2 c30)
   have c30b9 : (9223372036854775807 < ((((((x5_1 ++ (⟨#[80, 75, 1, 2]⟩ : ByteArray)) ++ t207) ++ t208) ++ t209) ++ t210) ++ t211).size + ((rd_T39 l0_0 x6_1).f0).size) = False := eq_false (Nat.not_lt.2 c30)
   (first | (simp only [ByteArray.size_append, show (⟨#[80, 75, 1, 2]⟩ : ByteArray).size = 4 from rfl] at c30b9) | (try simp only [ByteArray.size_append, show (⟨#[80, 75, 1, 2]⟩ : ByteArray).size = 4 from rfl] at c30b9))
   by_cases c31 : (((((((x5_1 ++ (⟨#[80, 75, 1, 2]⟩ : ByteArray)) ++ t207) ++ t208) ++ t209) ++ t210) ++ t211) ++ ((rd_T39 l0_0 x6_1).f0)).size + t205.size ≤ 9223372036854775807
   rotate_left
   ·rw [if_neg c31] at H
    exact absurd H (by simp)
   rw [if_pos c31] at H
   have c31b0 := eq_true c31
   have c31b1 : decide ((((((((x5_1 ++ (⟨#[80, 75, 1, 2]⟩ : ByteArray)) ++ t207) ++ t208) ++ t209) ++ t210) ++ t211) ++ ((rd_T39 l0_0 x6_1).f0)).size + t205.size ≤ 9223372036854775807) = true := decide_eq_true c31
   try have c31b2 : (9223372036854775807 < (((((((x5_1 ++ (⟨#[80, 75, 1, 2]⟩ : ByteArray)) ++ t207) ++ t208) ++ t209) ++ t210) ++ t211) ++ ((rd_T39 l0_0 x6_1).f0)).size + t205.size) = False := eq_false (Nat.not_lt.2 c31)
   have c31b9 : (9223372036854775807 < (((((((x5_1 ++ (⟨#[80, 75, 1, 2]⟩ : ByteArray)) ++ t207) ++ t208) ++ t209) ++ t210) ++ t211) ++ ((rd_T39 l0_0 x6_1).f0)).size + t205.size) = False := eq_false (Nat.not_lt.2 c31)
   (first | (simp only [ByteArray.size_append, show (⟨#[80, 75, 1, 2]⟩ : ByteArray).size = 4 from rfl] at c31b9) | (try simp only [ByteArray.size_append, show (⟨#[80, 75, 1, 2]⟩ : ByteArray).size = 4 from rfl] at c31b9))
   by_cases c32 : x4_1.size + 4 ≤ 9223372036854775807
   rotate_left
   ·rw [if_neg c32] at H
    exact absurd H (by simp)
   rw [if_pos c32] at H
   have c32b0 := eq_true c32
   have c32b1 : decide (x4_1.size + 4 ≤ 9223372036854775807) = true := decide_eq_true c32
   try have c32b2 : (9223372036854775807 < x4_1.size + 4) = False := eq_false (Nat.not_lt.2 c32)
   replace H := Option.bind_eq_some_iff.mp H
   obtain ⟨t212, A330, H⟩ := H
   replace H : (if (x4_1 ++ (⟨#[80, 75, 3, 4]⟩ : ByteArray)).size + t212.size ≤ 9223372036854775807 then (if ((x4_1 ++ (⟨#[80, 75, 3, 4]⟩ : ByteArray)) ++ t212).size + ((rd_T39 l0_0 x6_1).f0).size ≤ 9223372036854775807 then (if (((x4_1 ++ (⟨#[80, 75, 3, 4]⟩ : ByteArray)) ++ t212) ++ ((rd_T39 l0_0 x6_1).f0)).size + t205.size ≤ 9223372036854775807 then (if ((((x4_1 ++ (⟨#[80, 75, 3, 4]⟩ : ByteArray)) ++ t212) ++ ((rd_T39 l0_0 x6_1).f0)) ++ t205).size + ((rd_T39 l0_0 x6_1).f6).size ≤ 9223372036854775807 then (pr_PutZip.l0 k1 (((((x4_1 ++ (⟨#[80, 75, 3, 4]⟩ : ByteArray)) ++ t212) ++ ((rd_T39 l0_0 x6_1).f0)) ++ t205) ++ ((rd_T39 l0_0 x6_1).f6)) ((((((((x5_1 ++ (⟨#[80, 75, 1, 2]⟩ : ByteArray)) ++ t207) ++ t208) ++ t209) ++ t210) ++ t211) ++ ((rd_T39 l0_0 x6_1).f0)) ++ t205) (wrap64 (x6_1 + 1)) l0_0) else (none)) else (none)) else (none)) else (none)) = some (r1, r2) := H
   have A33 := qas A330
   clear A330
   by_cases c34 : (x4_1 ++ (⟨#[80, 75, 3, 4]⟩ : ByteArray)).size + t212.size ≤ 9223372036854775807
   rotate_left
   ·rw [if_neg c34] at H
    exact absurd H (by simp)
   rw [if_pos c34] at H
   have c34b0 := eq_true c34
   have c34b1 : decide ((x4_1 ++ (⟨#[80, 75, 3, 4]⟩ : ByteArray)).size + t212.size ≤ 9223372036854775807) = true := decide_eq_true c34
   try have c34b2 : (9223372036854775807 < (x4_1 ++ (⟨#[80, 75, 3, 4]⟩ : ByteArray)).size + t212.size) = False := eq_false (Nat.not_lt.2 c34)
   have c34b9 : (9223372036854775807 < (x4_1 ++ (⟨#[80, 75, 3, 4]⟩ : ByteArray)).size + t212.size) = False := eq_false (Nat.not_lt.2 c34)
   (first | (simp only [ByteArray.size_append, show (⟨#[80, 75, 3, 4]⟩ : ByteArray).size = 4 from rfl] at c34b9) | (try simp only [ByteArray.size_append, show (⟨#[80, 75, 3, 4]⟩ : ByteArray).size = 4 from rfl] at c34b9))
   by_cases c35 : ((x4_1 ++ (⟨#[80, 75, 3, 4]⟩ : ByteArray)) ++ t212).size + ((rd_T39 l0_0 x6_1).f0).size ≤ 9223372036854775807
   rotate_left
   ·rw [if_neg c35] at H
    exact absurd H (by simp)
   rw [if_pos c35] at H
   have c35b0 := eq_true c35
   have c35b1 : decide (((x4_1 ++ (⟨#[80, 75, 3, 4]⟩ : ByteArray)) ++ t212).size + ((rd_T39 l0_0 x6_1).f0).size ≤ 9223372036854775807) = true := decide_eq_true c35
   try have c35b2 : (9223372036854775807 < ((x4_1 ++ (⟨#[80, 75, 3, 4]⟩ : ByteArray)) ++ t212).size + ((rd_T39 l0_0 x6_1).f0).size) = False := eq_false (Nat.not_lt.2 c35)
   have c35b9 : (9223372036854775807 < ((x4_1 ++ (⟨#[80, 75, 3, 4]⟩ : ByteArray)) ++ t212).size + ((rd_T39 l0_0 x6_1).f0).size) = False := eq_false (Nat.not_lt.2 c35)
   (first | (simp only [ByteArray.size_append, show (⟨#[80, 75, 3, 4]⟩ : ByteArray).size = 4 from rfl] at c35b9) | (try simp only [ByteArray.size_append, show (⟨#[80, 75, 3, 4]⟩ : ByteArray).size = 4 from rfl] at c35b9))
   by_cases c36 : (((x4_1 ++ (⟨#[80, 75, 3, 4]⟩ : ByteArray)) ++ t212) ++ ((rd_T39 l0_0 x6_1).f0)).size + t205.size ≤ 9223372036854775807
   rotate_left
   ·rw [if_neg c36] at H
    exact absurd H (by simp)
   rw [if_pos c36] at H
   have c36b0 := eq_true c36
   have c36b1 : decide ((((x4_1 ++ (⟨#[80, 75, 3, 4]⟩ : ByteArray)) ++ t212) ++ ((rd_T39 l0_0 x6_1).f0)).size + t205.size ≤ 9223372036854775807) = true := decide_eq_true c36
   try have c36b2 : (9223372036854775807 < (((x4_1 ++ (⟨#[80, 75, 3, 4]⟩ : ByteArray)) ++ t212) ++ ((rd_T39 l0_0 x6_1).f0)).size + t205.size) = False := eq_false (Nat.not_lt.2 c36)
   have c36b9 : (9223372036854775807 < (((x4_1 ++ (⟨#[80, 75, 3, 4]⟩ : ByteArray)) ++ t212) ++ ((rd_T39 l0_0 x6_1).f0)).size + t205.size) = False := eq_false (Nat.not_lt.2 c36)
   (first | (simp only [ByteArray.size_append, show (⟨#[80, 75, 3, 4]⟩ : ByteArray).size = 4 from rfl] at c36b9) | (try simp only [ByteArray.size_append, show (⟨#[80, 75, 3, 4]⟩ : ByteArray).size = 4 from rfl] at c36b9))
   by_cases c37 : ((((x4_1 ++ (⟨#[80, 75, 3, 4]⟩ : ByteArray)) ++ t212) ++ ((rd_T39 l0_0 x6_1).f0)) ++ t205).size + ((rd_T39 l0_0 x6_1).f6).size ≤ 9223372036854775807
   rotate_left
   ·rw [if_neg c37] at H
    exact absurd H (by simp)
   rw [if_pos c37] at H
   have c37b0 := eq_true c37
   have c37b1 : decide (((((x4_1 ++ (⟨#[80, 75, 3, 4]⟩ : ByteArray)) ++ t212) ++ ((rd_T39 l0_0 x6_1).f0)) ++ t205).size + ((rd_T39 l0_0 x6_1).f6).size ≤ 9223372036854775807) = true := decide_eq_true c37
   try have c37b2 : (9223372036854775807 < ((((x4_1 ++ (⟨#[80, 75, 3, 4]⟩ : ByteArray)) ++ t212) ++ ((rd_T39 l0_0 x6_1).f0)) ++ t205).size + ((rd_T39 l0_0 x6_1).f6).size) = False := eq_false (Nat.not_lt.2 c37)
   have c37b9 : (9223372036854775807 < ((((x4_1 ++ (⟨#[80, 75, 3, 4]⟩ : ByteArray)) ++ t212) ++ ((rd_T39 l0_0 x6_1).f0)) ++ t205).size + ((rd_T39 l0_0 x6_1).f6).size) = False := eq_false (Nat.not_lt.2 c37)
   (first | (simp only [ByteArray.size_append, show (⟨#[80, 75, 3, 4]⟩ : ByteArray).size = 4 from rfl] at c37b9) | (try simp only [ByteArray.size_append, show (⟨#[80, 75, 3, 4]⟩ : ByteArray).size = 4 from rfl] at c37b9))
   have H' := qas H
   clear H
   have hcz38_0 : wr.cell? ⟨gb200, 0, none⟩ = some (.slice A0_0 l0_0.length c0_0) := (blk_cell BK200.out 0).trans rfl
   have hfz38_0 := blk_frozen BK200.out 0
   have p203 : 0 ≤ (x6_1 : Int) := qde (by first | (with_reducible assumption) | assumption)
   have q203 : x6_1 < (l0_0.length : Int) := qde (by first | (with_reducible assumption) | assumption)
   obtain ⟨ad203, A203_2, c203_2, e203, hx203_0, hx203_1, hx203_2, hx203_3, hx203_4, hx203_5, hx203_6, hx203_7, hx203_8, hl203_2, hi203_2⟩ := at_T39 HR0_0.out x6_1 p203 q203
   cases e203
   replace hx203_0 := (HB.out.cell (qbl w _ hx203_0)).trans hx203_0
   replace hx203_1 := (HB.out.cell (qbl w _ hx203_1)).trans hx203_1
   replace hx203_2 := (HB.out.cell (qbl w _ hx203_2)).trans hx203_2
   replace hx203_3 := (HB.out.cell (qbl w _ hx203_3)).trans hx203_3
   replace hx203_4 := (HB.out.cell (qbl w _ hx203_4)).trans hx203_4
   replace hx203_5 := (HB.out.cell (qbl w _ hx203_5)).trans hx203_5
   replace hx203_6 := (HB.out.cell (qbl w _ hx203_6)).trans hx203_6
   replace hx203_7 := (HB.out.cell (qbl w _ hx203_7)).trans hx203_7
   replace hx203_8 := (HB.out.cell (qbl w _ hx203_8)).trans hx203_8
   have HR203_2 := qas hi203_2
   have HC203_2 := qas hl203_2
   clear hi203_2 hl203_2
   replace p203 := eq_true p203
   replace q203 := eq_true q203
   try go_wp2_with (first | ((with_reducible refine gate_dst (N := 7) rfl ?_); refine box_event ?hg (N := 7) ?hd (cs := #[.string (⟨#[]⟩ : ByteArray), .bool false, .slice none 0 0, .int .i64 0, .int .i64 0, .int .i64 0, .string (⟨#[]⟩ : ByteArray), .int .i64 0, .int .i64 0]) (t := 39) ?hr ?_; (case hd => rfl); (case hg => rfl); (case hr => first | (go_simp; done) | (go_simp; rfl)); intro gb204 hg w39 hbox hb; have n0_ := qas (blk_below (g := gb200) (o := .cells #[.slice (some ad203) l0_0.length c0_0] 24 (0, 0)) (by (with_reducible repeat (first | refine qkA ?_ _ | refine qkB ?_ | refine qkC ?_ _)); exact BK200.out) hb); have n1_ := qas (below_step (by repeat (first | (with_reducible first | exact HB.out | apply qbA | apply qbB | apply qbC | refine below_set ?_ GE200.out) | exact HB.out)) hb); have n2_ := qas (hbox); have n3_ := qas ((by rw [hg]; exact (below_size (by repeat (first | (with_reducible first | exact HB.out | apply qbA | apply qbB | apply qbC | refine below_set ?_ GE200.out) | exact HB.out))) : w.heap.size ≤ gb204)); have n4_ := qas ((by rw [hg]; exact (below_size (by repeat (first | (with_reducible first | exact HB.out | apply qbA | apply qbB | apply qbC | refine below_set ?_ GE200.out) | exact HB.out))) : w.heap.size ≤ gb204)); have n5_ := qas ((by rw [hg]; exact Nat.ne_of_lt (blk_lt (g := gb200) (o := .cells #[.slice (some ad203) l0_0.length c0_0] 24 (0, 0)) (by (with_reducible repeat (first | refine qkA ?_ _ | refine qkB ?_ | refine qkC ?_ _)); exact BK200.out)) : gb200 ≠ gb204)); have n6_ := qas ((by rw [hg]; exact Nat.ne_of_gt (blk_lt (g := gb200) (o := .cells #[.slice (some ad203) l0_0.length c0_0] 24 (0, 0)) (by (with_reducible repeat (first | refine qkA ?_ _ | refine qkB ?_ | refine qkC ?_ _)); exact BK200.out)) : gb204 ≠ gb200)); clear BK200; clear HB; have BK200 := n0_; have HB := n1_; have BK204 := n2_; have GW204 := n3_; have GE204 := n4_; have NB200_204 := n5_; have NB204_200 := n6_; clear n0_ n1_ n2_ n3_ n4_ n5_ n6_; clear hb hbox hg; have hnb40 := NB204_200.out; have hnc40 := NB200_204.out; have hcz41_0 : w39.cell? ⟨gb204, 0, none⟩ = some (.string (⟨#[]⟩ : ByteArray)) := (blk_cell BK204.out 0).trans rfl; have hcz41_1 : w39.cell? ⟨gb204, 1, none⟩ = some (.bool false) := (blk_cell BK204.out 1).trans rfl; have hcz41_2 : w39.cell? ⟨gb204, 2, none⟩ = some (.slice none 0 0) := (blk_cell BK204.out 2).trans rfl; have hcz41_3 : w39.cell? ⟨gb204, 3, none⟩ = some (.int .i64 0) := (blk_cell BK204.out 3).trans rfl; have hcz41_4 : w39.cell? ⟨gb204, 4, none⟩ = some (.int .i64 0) := (blk_cell BK204.out 4).trans rfl; have hcz41_5 : w39.cell? ⟨gb204, 5, none⟩ = some (.int .i64 0) := (blk_cell BK204.out 5).trans rfl; have hcz41_6 : w39.cell? ⟨gb204, 6, none⟩ = some (.string (⟨#[]⟩ : ByteArray)) := (blk_cell BK204.out 6).trans rfl; have hcz41_7 : w39.cell? ⟨gb204, 7, none⟩ = some (.int .i64 0) := (blk_cell BK204.out 7).trans rfl; have hcz41_8 : w39.cell? ⟨gb204, 8, none⟩ = some (.int .i64 0) := (blk_cell BK204.out 8).trans rfl; have hfz41_0 := blk_frozen BK204.out 0; have hfz41_1 := blk_frozen BK204.out 1; have hfz41_2 := blk_frozen BK204.out 2; have hfz41_3 := blk_frozen BK204.out 3; have hfz41_4 := blk_frozen BK204.out 4; have hfz41_5 := blk_frozen BK204.out 5; have hfz41_6 := blk_frozen BK204.out 6; have hfz41_7 := blk_frozen BK204.out 7; have hfz41_8 := blk_frozen BK204.out 8) | ((with_reducible refine gate_callee (f := 52) rfl ?_); refine goesL_ (some 31) rfl rfl Tryd.func52 (by kernel_rfl) rfl #[.agg #[.string ((rd_T39 l0_0 x6_1).f0), .bool ((rd_T39 l0_0 x6_1).f1), .slice A203_2 ((rd_T39 l0_0 x6_1).f2).length c203_2, .int .i64 ((rd_T39 l0_0 x6_1).f3), .int .i64 ((rd_T39 l0_0 x6_1).f4), .int .i64 ((rd_T39 l0_0 x6_1).f5), .string ((rd_T39 l0_0 x6_1).f6), .int .i64 ((rd_T39 l0_0 x6_1).f7), .int .i64 ((rd_T39 l0_0 x6_1).f8)]] rfl (by (try simp only [List.map_toArray, List.map_cons, List.map_nil]); first | done | rfl | (simp only [List.length_drop, List.length_take]; rfl)) ?_; (with_reducible refine (pr_PutExtra.calls k1 ((rd_T39 l0_0 x6_1).f0) ((rd_T39 l0_0 x6_1).f1) _ _ ((rd_T39 l0_0 x6_1).f2) ((rd_T39 l0_0 x6_1).f3) ((rd_T39 l0_0 x6_1).f4) ((rd_T39 l0_0 x6_1).f5) ((rd_T39 l0_0 x6_1).f6) ((rd_T39 l0_0 x6_1).f7) ((rd_T39 l0_0 x6_1).f8) t205 t206 _ ?side1 ?side2 A18.out).mono ?_); (case side1 => exact Kd.C_below HR203_2.out (by repeat (first | (with_reducible first | exact HB.out | apply qbA | apply qbB | apply qbC | refine below_set ?_ GE200.out | refine below_set ?_ GE204.out) | exact HB.out))); (case side2 => exact HC203_2.out); rintro e w42 ⟨rfl, hb⟩; refine ⟨_, rfl, ?_⟩; have n0_ := qas (blk_below (g := gb200) (o := .cells #[.slice (some ad203) l0_0.length c0_0] 24 (0, 0)) (by (with_reducible repeat (first | refine qkA ?_ _ | refine qkB ?_ | refine qkC ?_ _)); refine blk_far ?_ NB200_204.out _; (with_reducible repeat (first | refine qkA ?_ _ | refine qkB ?_ | refine qkC ?_ _)); refine blk_far ?_ NB200_204.out _; (with_reducible repeat (first | refine qkA ?_ _ | refine qkB ?_ | refine qkC ?_ _)); refine blk_far ?_ NB200_204.out _; (with_reducible repeat (first | refine qkA ?_ _ | refine qkB ?_ | refine qkC ?_ _)); refine blk_far ?_ NB200_204.out _; (with_reducible repeat (first | refine qkA ?_ _ | refine qkB ?_ | refine qkC ?_ _)); refine blk_far ?_ NB200_204.out _; (with_reducible repeat (first | refine qkA ?_ _ | refine qkB ?_ | refine qkC ?_ _)); refine blk_far ?_ NB200_204.out _; (with_reducible repeat (first | refine qkA ?_ _ | refine qkB ?_ | refine qkC ?_ _)); refine blk_far ?_ NB200_204.out _; (with_reducible repeat (first | refine qkA ?_ _ | refine qkB ?_ | refine qkC ?_ _)); refine blk_far ?_ NB200_204.out _; (with_reducible repeat (first | refine qkA ?_ _ | refine qkB ?_ | refine qkC ?_ _)); refine blk_far ?_ NB200_204.out _; (with_reducible repeat (first | refine qkA ?_ _ | refine qkB ?_ | refine qkC ?_ _)); exact BK200.out) hb); have n1_ := qas (blk_below (g := gb204) (o := .cells #[.string ((rd_T39 l0_0 x6_1).f0), .bool ((rd_T39 l0_0 x6_1).f1), .slice A203_2 ((rd_T39 l0_0 x6_1).f2).length c203_2, .int .i64 ((rd_T39 l0_0 x6_1).f3), .int .i64 ((rd_T39 l0_0 x6_1).f4), .int .i64 ((rd_T39 l0_0 x6_1).f5), .string ((rd_T39 l0_0 x6_1).f6), .int .i64 ((rd_T39 l0_0 x6_1).f7), .int .i64 ((rd_T39 l0_0 x6_1).f8)] 39 (0, 0)) (by (with_reducible repeat (first | refine qkA ?_ _ | refine qkB ?_ | refine qkC ?_ _)); refine blk_put (cs := #[.string ((rd_T39 l0_0 x6_1).f0), .bool ((rd_T39 l0_0 x6_1).f1), .slice A203_2 ((rd_T39 l0_0 x6_1).f2).length c203_2, .int .i64 ((rd_T39 l0_0 x6_1).f3), .int .i64 ((rd_T39 l0_0 x6_1).f4), .int .i64 ((rd_T39 l0_0 x6_1).f5), .string ((rd_T39 l0_0 x6_1).f6), .int .i64 ((rd_T39 l0_0 x6_1).f7), .int .i64 0]) ?_ 8 _ rfl; (with_reducible repeat (first | refine qkA ?_ _ | refine qkB ?_ | refine qkC ?_ _)); refine blk_put (cs := #[.string ((rd_T39 l0_0 x6_1).f0), .bool ((rd_T39 l0_0 x6_1).f1), .slice A203_2 ((rd_T39 l0_0 x6_1).f2).length c203_2, .int .i64 ((rd_T39 l0_0 x6_1).f3), .int .i64 ((rd_T39 l0_0 x6_1).f4), .int .i64 ((rd_T39 l0_0 x6_1).f5), .string ((rd_T39 l0_0 x6_1).f6), .int .i64 0, .int .i64 0]) ?_ 7 _ rfl; (with_reducible repeat (first | refine qkA ?_ _ | refine qkB ?_ | refine qkC ?_ _)); refine blk_put (cs := #[.string ((rd_T39 l0_0 x6_1).f0), .bool ((rd_T39 l0_0 x6_1).f1), .slice A203_2 ((rd_T39 l0_0 x6_1).f2).length c203_2, .int .i64 ((rd_T39 l0_0 x6_1).f3), .int .i64 ((rd_T39 l0_0 x6_1).f4), .int .i64 ((rd_T39 l0_0 x6_1).f5), .string (⟨#[]⟩ : ByteArray), .int .i64 0, .int .i64 0]) ?_ 6 _ rfl; (with_reducible repeat (first | refine qkA ?_ _ | refine qkB ?_ | refine qkC ?_ _)); refine blk_put (cs := #[.string ((rd_T39 l0_0 x6_1).f0), .bool ((rd_T39 l0_0 x6_1).f1), .slice A203_2 ((rd_T39 l0_0 x6_1).f2).length c203_2, .int .i64 ((rd_T39 l0_0 x6_1).f3), .int .i64 ((rd_T39 l0_0 x6_1).f4), .int .i64 0, .string (⟨#[]⟩ : ByteArray), .int .i64 0, .int .i64 0]) ?_ 5 _ rfl; (with_reducible repeat (first | refine qkA ?_ _ | refine qkB ?_ | refine qkC ?_ _)); refine blk_put (cs := #[.string ((rd_T39 l0_0 x6_1).f0), .bool ((rd_T39 l0_0 x6_1).f1), .slice A203_2 ((rd_T39 l0_0 x6_1).f2).length c203_2, .int .i64 ((rd_T39 l0_0 x6_1).f3), .int .i64 0, .int .i64 0, .string (⟨#[]⟩ : ByteArray), .int .i64 0, .int .i64 0]) ?_ 4 _ rfl; (with_reducible repeat (first | refine qkA ?_ _ | refine qkB ?_ | refine qkC ?_ _)); refine blk_put (cs := #[.string ((rd_T39 l0_0 x6_1).f0), .bool ((rd_T39 l0_0 x6_1).f1), .slice A203_2 ((rd_T39 l0_0 x6_1).f2).length c203_2, .int .i64 0, .int .i64 0, .int .i64 0, .string (⟨#[]⟩ : ByteArray), .int .i64 0, .int .i64 0]) ?_ 3 _ rfl; (with_reducible repeat (first | refine qkA ?_ _ | refine qkB ?_ | refine qkC ?_ _)); refine blk_put (cs := #[.string ((rd_T39 l0_0 x6_1).f0), .bool ((rd_T39 l0_0 x6_1).f1), .slice none 0 0, .int .i64 0, .int .i64 0, .int .i64 0, .string (⟨#[]⟩ : ByteArray), .int .i64 0, .int .i64 0]) ?_ 2 _ rfl; (with_reducible repeat (first | refine qkA ?_ _ | refine qkB ?_ | refine qkC ?_ _)); refine blk_put (cs := #[.string ((rd_T39 l0_0 x6_1).f0), .bool false, .slice none 0 0, .int .i64 0, .int .i64 0, .int .i64 0, .string (⟨#[]⟩ : ByteArray), .int .i64 0, .int .i64 0]) ?_ 1 _ rfl; (with_reducible repeat (first | refine qkA ?_ _ | refine qkB ?_ | refine qkC ?_ _)); refine blk_put (cs := #[.string (⟨#[]⟩ : ByteArray), .bool false, .slice none 0 0, .int .i64 0, .int .i64 0, .int .i64 0, .string (⟨#[]⟩ : ByteArray), .int .i64 0, .int .i64 0]) ?_ 0 _ rfl; (with_reducible repeat (first | refine qkA ?_ _ | refine qkB ?_ | refine qkC ?_ _)); exact BK204.out) hb); have n2_ := qas (below_step (by repeat (first | (with_reducible first | exact HB.out | apply qbA | apply qbB | apply qbC | refine below_set ?_ GE200.out | refine below_set ?_ GE204.out) | exact HB.out)) hb); clear BK200; clear BK204; clear HB; have BK200 := n0_; have BK204 := n1_; have HB := n2_; clear n0_ n1_ n2_; (try clear hb); (try clear hb2); (try clear hk); (try clear hi)))
   have n0_ := qas (qkB BK200.out)
   have n1_ := qas (qkB BK204.out)
   have n2_ := qas (qbC HB.out)
   clear BK200
   clear BK204
   clear HB
   have BK200 := n0_
   have BK204 := n1_
   have HB := n2_
   clear n0_ n1_ n2_
   refine start_ (n := 21) (S := fun w' => w'.cell? ⟨gb204, 0, none⟩ = some (.string ((rd_T39 l0_0 x6_1).f0)) ∧ w'.cell? ⟨gb204, 1, none⟩ = some (.bool ((rd_T39 l0_0 x6_1).f1)) ∧ w'.cell? ⟨gb204, 2, none⟩ = some (.slice A203_2 ((rd_T39 l0_0 x6_1).f2).length c203_2) ∧ w'.cell? ⟨gb204, 3, none⟩ = some (.int .i64 ((rd_T39 l0_0 x6_1).f3)) ∧ w'.cell? ⟨gb204, 4, none⟩ = some (.int .i64 ((rd_T39 l0_0 x6_1).f4)) ∧ w'.cell? ⟨gb204, 5, none⟩ = some (.int .i64 ((rd_T39 l0_0 x6_1).f5)) ∧ w'.cell? ⟨gb204, 6, none⟩ = some (.string ((rd_T39 l0_0 x6_1).f6)) ∧ w'.cell? ⟨gb204, 7, none⟩ = some (.int .i64 ((rd_T39 l0_0 x6_1).f7)) ∧ w'.cell? ⟨gb204, 8, none⟩ = some (.int .i64 ((rd_T39 l0_0 x6_1).f8))) (ds := []) #[qf, qf, qf, qf, qf, qf, qf, qf, qf, qf, qf, qf, qf, qf, qf, qf, qf, qf, qf, qf, qf] (by kernel_rfl) rfl rfl ⟨(blk_cell BK204.out 0).trans rfl, (blk_cell BK204.out 1).trans rfl, (blk_cell BK204.out 2).trans rfl, (blk_cell BK204.out 3).trans rfl, (blk_cell BK204.out 4).trans rfl, (blk_cell BK204.out 5).trans rfl, (blk_cell BK204.out 6).trans rfl, (blk_cell BK204.out 7).trans rfl, (blk_cell BK204.out 8).trans rfl⟩ (fun hHeld => ?_); refine with_tabW pr_PutZip.tab11 pr_PutZip.bits11 (fun HT_ HW_ => ?_)
   generalize w42.drew = w43 at BK200 BK204 HB hHeld ⊢
   refine pure_ (i := 0) (N := some 34) (v := ?_) (a' := ?_) #[qt, qf, qf, qf, qf, qf, qf, qf, qf, qf, qf, qf, qf, qf, qf, qf, qf, qf, qf, qf, qf] rfl rfl (any_of HT_.out (by kernel_rfl)) (fun _ _ _ h => h) (Or.inl ⟨by rfl, ?_⟩) ?_ ?_
   rotate_left
   ·intro w'
    go_simp
    with_reducible rfl
   rotate_left
   ·simp only [Act.put, qsA, qsB, qsC, i64_w, i32_w, qsD, qsE]
    rfl
   refine pure_ (i := 1) (N := some 35) (v := ?_) (a' := ?_) #[qt, qt, qf, qf, qf, qf, qf, qf, qf, qf, qf, qf, qf, qf, qf, qf, qf, qf, qf, qf, qf] rfl rfl (any_of HT_.out (by kernel_rfl)) (fun _ _ _ h => h) (Or.inl ⟨by rfl, ?_⟩) ?_ ?_
   rotate_left
   ·intro w'
    go_simp
    with_reducible rfl
   rotate_left
   ·simp only [Act.put, qsA, qsB, qsC, i64_w, i32_w, qsD, qsE]
    rfl
   refine pure_ (i := 11) (N := some 45) (v := ?_) (a' := ?_) #[qt, qt, qf, qf, qf, qf, qf, qf, qf, qf, qf, qt, qf, qf, qf, qf, qf, qf, qf, qf, qf] rfl rfl (any_of HT_.out (by kernel_rfl)) (fun _ _ _ h => h) (Or.inl ⟨by rfl, ?_⟩) ?_ ?_
   rotate_left
   ·intro w'
    go_simp
    with_reducible rfl
   rotate_left
   ·simp only [Act.put, qsA, qsB, qsC, i64_w, i32_w, qsD, qsE]
    rfl
   refine pure_ (i := 12) (N := some 46) (v := ?_) (a' := ?_) #[qt, qt, qf, qf, qf, qf, qf, qf, qf, qf, qf, qt, qt, qf, qf, qf, qf, qf, qf, qf, qf] rfl rfl (any_of HT_.out (by kernel_rfl)) (fun _ _ _ h => h) (Or.inl ⟨by rfl, ?_⟩) ?_ ?_
   rotate_left
   ·intro w'
    go_simp
    with_reducible rfl
   rotate_left
   ·simp only [Act.put, qsA, qsB, qsC, i64_w, i32_w, qsD, qsE]
    rfl
   refine pure_ (i := 15) (N := some 49) (v := ?_) (a' := ?_) #[qt, qt, qf, qf, qf, qf, qf, qf, qf, qf, qf, qt, qt, qf, qf, qt, qf, qf, qf, qf, qf] rfl rfl (any_of HT_.out (by kernel_rfl)) (fun _ _ _ h => h) (Or.inl ⟨by rfl, ?_⟩) ?_ ?_
   rotate_left
   ·intro w'
    go_simp
    with_reducible rfl
   rotate_left
   ·simp only [Act.put, qsA, qsB, qsC, i64_w, i32_w, qsD, qsE]
    rfl
   refine pure_ (i := 18) (N := some 52) (v := ?_) (a' := ?_) #[qt, qt, qf, qf, qf, qf, qf, qf, qf, qf, qf, qt, qt, qf, qf, qt, qf, qf, qt, qf, qf] rfl rfl (any_of HT_.out (by kernel_rfl)) (fun _ _ _ h => h) (Or.inl ⟨by rfl, ?_⟩) ?_ ?_
   rotate_left
   ·intro w'
    go_simp
    with_reducible rfl
   rotate_left
   ·simp only [Act.put, qsA, qsB, qsC, i64_w, i32_w, qsD, qsE]
    rfl
   refine take_ (i := 4) (N := some 38) (v := ?_) (a' := ?_) #[qt, qt, qf, qf, qt, qf, qf, qf, qf, qf, qf, qt, qt, qf, qf, qt, qf, qf, qt, qf, qf] rfl rfl (take_ofW HT_.out HW_.out (by kernel_rfl)) (fun _ _ _ h => h) (Or.inl ⟨by rfl, ?_⟩) hHeld ?_ ?_
   rotate_left
   ·rintro w' ⟨s0, s1, s2, s3, s4, s5, s6, s7, s8⟩
    go_simp
    with_reducible rfl
   rotate_left
   ·simp only [Act.put, qsA, qsB, qsC, i64_w, i32_w, qsD, qsE]
    rfl
   refine take_ (i := 16) (N := some 50) (v := ?_) (a' := ?_) #[qt, qt, qf, qf, qt, qf, qf, qf, qf, qf, qf, qt, qt, qf, qf, qt, qt, qf, qt, qf, qf] rfl rfl (take_ofW HT_.out HW_.out (by kernel_rfl)) (fun _ _ _ h => h) (Or.inl ⟨by rfl, ?_⟩) hHeld ?_ ?_
   rotate_left
   ·rintro w' ⟨s0, s1, s2, s3, s4, s5, s6, s7, s8⟩
    go_simp
    with_reducible rfl
   rotate_left
   ·simp only [Act.put, qsA, qsB, qsC, i64_w, i32_w, qsD, qsE]
    rfl
   refine one_ (i := 2) (N := some 36) #[qt, qt, qt, qf, qt, qf, qf, qf, qf, qf, qf, qt, qt, qf, qf, qt, qt, qf, qt, qf, qf] rfl rfl (one_of HT_.out (by kernel_rfl)) (by decide) (fun K hK => ?_)
   refine goes_ Tryd.func53 (by kernel_rfl) rfl #[.int .i64 20, .int .i64 2] (by rfl) rfl rfl (by (try simp only [List.map_toArray, List.map_cons, List.map_nil]); first | done | rfl | (simp only [List.length_drop, List.length_take]; rfl)) ?_
   with_reducible refine (pr_Bytes.calls k1 20 2 t207 _ A20.out).mono ?_
   rintro e w44 ⟨rfl, hb⟩
   refine ⟨_, rfl, ?_⟩
   have n0_ := qas (blk_below (g := gb200) (o := .cells #[.slice (some ad203) l0_0.length c0_0] 24 (0, 0)) (by (with_reducible repeat (first | refine qkA ?_ _ | refine qkB ?_ | refine qkC ?_ _)); exact BK200.out) hb)
   have n1_ := qas (blk_below (g := gb204) (o := .cells #[.string ((rd_T39 l0_0 x6_1).f0), .bool ((rd_T39 l0_0 x6_1).f1), .slice A203_2 ((rd_T39 l0_0 x6_1).f2).length c203_2, .int .i64 ((rd_T39 l0_0 x6_1).f3), .int .i64 ((rd_T39 l0_0 x6_1).f4), .int .i64 ((rd_T39 l0_0 x6_1).f5), .string ((rd_T39 l0_0 x6_1).f6), .int .i64 ((rd_T39 l0_0 x6_1).f7), .int .i64 ((rd_T39 l0_0 x6_1).f8)] 39 (0, 0)) (by (with_reducible repeat (first | refine qkA ?_ _ | refine qkB ?_ | refine qkC ?_ _)); exact BK204.out) hb)
   have n2_ := qas (below_step (by repeat (first | (with_reducible first | exact HB.out | apply qbA | apply qbB | apply qbC | refine below_set ?_ GE200.out | refine below_set ?_ GE204.out) | exact HB.out)) hb)
   clear BK200
   clear BK204
   clear HB
   have BK200 := n0_
   have BK204 := n1_
   have HB := n2_
   clear n0_ n1_ n2_
   (try clear hb)
   (try clear hb2)
   (try clear hk)
   (try clear hi)
   refine hK.out _ _ ⟨(blk_cell BK204.out 0).trans rfl, (blk_cell BK204.out 1).trans rfl, (blk_cell BK204.out 2).trans rfl, (blk_cell BK204.out 3).trans rfl, (blk_cell BK204.out 4).trans rfl, (blk_cell BK204.out 5).trans rfl, (blk_cell BK204.out 6).trans rfl, (blk_cell BK204.out 7).trans rfl, (blk_cell BK204.out 8).trans rfl⟩ (fun hHeld => ?_)
   clear hK K
   refine norm_ (a' := ?_) ?_ ?_
   rotate_left
   ·show Act.put _ (some 36) _ = _
    simp only [Act.put, qsA, qsB, qsC, i64_w, i32_w, qsD, qsE]
    rfl
   refine pure_ (i := 3) (N := some 37) (v := ?_) (a' := ?_) #[qt, qt, qt, qt, qt, qf, qf, qf, qf, qf, qf, qt, qt, qf, qf, qt, qt, qf, qt, qf, qf] rfl rfl (any_of HT_.out (by kernel_rfl)) (fun _ _ _ h => h) (Or.inl ⟨by rfl, ?_⟩) ?_ ?_
   rotate_left
   ·intro w'
    go_simp
    with_reducible rfl
   rotate_left
   ·simp only [Act.put, qsA, qsB, qsC, i64_w, i32_w, qsD, qsE]
    rfl
   refine one_ (i := 5) (N := some 39) #[qt, qt, qt, qt, qt, qt, qf, qf, qf, qf, qf, qt, qt, qf, qf, qt, qt, qf, qt, qf, qf] rfl rfl (one_of HT_.out (by kernel_rfl)) (by decide) (fun K hK => ?_)
   refine goes_ Tryd.func54 (by kernel_rfl) rfl #[.agg #[.string ((rd_T39 l0_0 x6_1).f0), .bool ((rd_T39 l0_0 x6_1).f1), .slice A203_2 ((rd_T39 l0_0 x6_1).f2).length c203_2, .int .i64 ((rd_T39 l0_0 x6_1).f3), .int .i64 ((rd_T39 l0_0 x6_1).f4), .int .i64 ((rd_T39 l0_0 x6_1).f5), .string ((rd_T39 l0_0 x6_1).f6), .int .i64 ((rd_T39 l0_0 x6_1).f7), .int .i64 ((rd_T39 l0_0 x6_1).f8)]] (by rfl) rfl rfl (by (try simp only [List.map_toArray, List.map_cons, List.map_nil]); first | done | rfl | (simp only [List.length_drop, List.length_take]; rfl)) ?_
   with_reducible refine (pr_common.calls k1 ((rd_T39 l0_0 x6_1).f0) ((rd_T39 l0_0 x6_1).f1) _ _ ((rd_T39 l0_0 x6_1).f2) ((rd_T39 l0_0 x6_1).f3) ((rd_T39 l0_0 x6_1).f4) ((rd_T39 l0_0 x6_1).f5) ((rd_T39 l0_0 x6_1).f6) ((rd_T39 l0_0 x6_1).f7) ((rd_T39 l0_0 x6_1).f8) t208 _ ?side1 ?side2 A22.out).mono ?_
   (case side1 => repeat (first | exact (Kd.C_below HR203_2.out HB.out) | (with_reducible refine Kd.C_alloc ?_ _) | (with_reducible refine Kd.C_drewN ?_ _) | (with_reducible refine Kd.C_drew ?_)))
   (case side2 => exact HC203_2.out)
   rintro e w45 ⟨rfl, hb⟩
   refine ⟨_, rfl, ?_⟩
   have n0_ := qas (blk_below (g := gb200) (o := .cells #[.slice (some ad203) l0_0.length c0_0] 24 (0, 0)) (by (with_reducible repeat (first | refine qkA ?_ _ | refine qkB ?_ | refine qkC ?_ _)); exact BK200.out) hb)
   have n1_ := qas (blk_below (g := gb204) (o := .cells #[.string ((rd_T39 l0_0 x6_1).f0), .bool ((rd_T39 l0_0 x6_1).f1), .slice A203_2 ((rd_T39 l0_0 x6_1).f2).length c203_2, .int .i64 ((rd_T39 l0_0 x6_1).f3), .int .i64 ((rd_T39 l0_0 x6_1).f4), .int .i64 ((rd_T39 l0_0 x6_1).f5), .string ((rd_T39 l0_0 x6_1).f6), .int .i64 ((rd_T39 l0_0 x6_1).f7), .int .i64 ((rd_T39 l0_0 x6_1).f8)] 39 (0, 0)) (by (with_reducible repeat (first | refine qkA ?_ _ | refine qkB ?_ | refine qkC ?_ _)); exact BK204.out) hb)
   have n2_ := qas (below_step (by repeat (first | (with_reducible first | exact HB.out | apply qbA | apply qbB | apply qbC | refine below_set ?_ GE200.out | refine below_set ?_ GE204.out) | exact HB.out)) hb)
   clear BK200
   clear BK204
   clear HB
   have BK200 := n0_
   have BK204 := n1_
   have HB := n2_
   clear n0_ n1_ n2_
   (try clear hb)
   (try clear hb2)
   (try clear hk)
   (try clear hi)
   refine hK.out _ _ ⟨(blk_cell BK204.out 0).trans rfl, (blk_cell BK204.out 1).trans rfl, (blk_cell BK204.out 2).trans rfl, (blk_cell BK204.out 3).trans rfl, (blk_cell BK204.out 4).trans rfl, (blk_cell BK204.out 5).trans rfl, (blk_cell BK204.out 6).trans rfl, (blk_cell BK204.out 7).trans rfl, (blk_cell BK204.out 8).trans rfl⟩ (fun hHeld => ?_)
   clear hK K
   refine norm_ (a' := ?_) ?_ ?_
   rotate_left
   ·show Act.put _ (some 39) _ = _
    simp only [Act.put, qsA, qsB, qsC, i64_w, i32_w, qsD, qsE]
    rfl
   refine pure_ (i := 6) (N := some 40) (v := ?_) (a' := ?_) #[qt, qt, qt, qt, qt, qt, qt, qf, qf, qf, qf, qt, qt, qf, qf, qt, qt, qf, qt, qf, qf] rfl rfl (any_of HT_.out (by kernel_rfl)) (fun _ _ _ h => h) (Or.inl ⟨by rfl, ?_⟩) ?_ ?_
   rotate_left
   ·intro w'
    go_simp
    with_reducible rfl
   rotate_left
   ·simp only [Act.put, qsA, qsB, qsC, i64_w, i32_w, qsD, qsE]
    rfl
   refine one_ (i := 7) (N := some 41) #[qt, qt, qt, qt, qt, qt, qt, qt, qf, qf, qf, qt, qt, qf, qf, qt, qt, qf, qt, qf, qf] rfl rfl (one_of HT_.out (by kernel_rfl)) (by decide) (fun K hK => ?_)
   refine goes_ Tryd.func53 (by kernel_rfl) rfl #[.int .i64 0, .int .i64 6] (by rfl) rfl rfl (by (try simp only [List.map_toArray, List.map_cons, List.map_nil]); first | done | rfl | (simp only [List.length_drop, List.length_take]; rfl)) ?_
   with_reducible refine (pr_Bytes.calls k1 0 6 t209 _ A24.out).mono ?_
   rintro e w46 ⟨rfl, hb⟩
   refine ⟨_, rfl, ?_⟩
   have n0_ := qas (blk_below (g := gb200) (o := .cells #[.slice (some ad203) l0_0.length c0_0] 24 (0, 0)) (by (with_reducible repeat (first | refine qkA ?_ _ | refine qkB ?_ | refine qkC ?_ _)); exact BK200.out) hb)
   have n1_ := qas (blk_below (g := gb204) (o := .cells #[.string ((rd_T39 l0_0 x6_1).f0), .bool ((rd_T39 l0_0 x6_1).f1), .slice A203_2 ((rd_T39 l0_0 x6_1).f2).length c203_2, .int .i64 ((rd_T39 l0_0 x6_1).f3), .int .i64 ((rd_T39 l0_0 x6_1).f4), .int .i64 ((rd_T39 l0_0 x6_1).f5), .string ((rd_T39 l0_0 x6_1).f6), .int .i64 ((rd_T39 l0_0 x6_1).f7), .int .i64 ((rd_T39 l0_0 x6_1).f8)] 39 (0, 0)) (by (with_reducible repeat (first | refine qkA ?_ _ | refine qkB ?_ | refine qkC ?_ _)); exact BK204.out) hb)
   have n2_ := qas (below_step (by repeat (first | (with_reducible first | exact HB.out | apply qbA | apply qbB | apply qbC | refine below_set ?_ GE200.out | refine below_set ?_ GE204.out) | exact HB.out)) hb)
   clear BK200
   clear BK204
   clear HB
   have BK200 := n0_
   have BK204 := n1_
   have HB := n2_
   clear n0_ n1_ n2_
   (try clear hb)
   (try clear hb2)
   (try clear hk)
   (try clear hi)
   refine hK.out _ _ ⟨(blk_cell BK204.out 0).trans rfl, (blk_cell BK204.out 1).trans rfl, (blk_cell BK204.out 2).trans rfl, (blk_cell BK204.out 3).trans rfl, (blk_cell BK204.out 4).trans rfl, (blk_cell BK204.out 5).trans rfl, (blk_cell BK204.out 6).trans rfl, (blk_cell BK204.out 7).trans rfl, (blk_cell BK204.out 8).trans rfl⟩ (fun hHeld => ?_)
   clear hK K
   refine norm_ (a' := ?_) ?_ ?_
   rotate_left
   ·show Act.put _ (some 41) _ = _
    simp only [Act.put, qsA, qsB, qsC, i64_w, i32_w, qsD, qsE]
    rfl
   refine pure_ (i := 8) (N := some 42) (v := ?_) (a' := ?_) #[qt, qt, qt, qt, qt, qt, qt, qt, qt, qf, qf, qt, qt, qf, qf, qt, qt, qf, qt, qf, qf] rfl rfl (any_of HT_.out (by kernel_rfl)) (fun _ _ _ h => h) (Or.inl ⟨by rfl, ?_⟩) ?_ ?_
   rotate_left
   ·intro w'
    go_simp
    with_reducible rfl
   rotate_left
   ·simp only [Act.put, qsA, qsB, qsC, i64_w, i32_w, qsD, qsE]
    rfl
   refine one_ (i := 9) (N := some 43) #[qt, qt, qt, qt, qt, qt, qt, qt, qt, qt, qf, qt, qt, qf, qf, qt, qt, qf, qt, qf, qf] rfl rfl (one_of HT_.out (by kernel_rfl)) (by decide) (fun K hK => ?_)
   refine goes_ Tryd.func53 (by kernel_rfl) rfl #[.int .i64 0, .int .i64 4] (by rfl) rfl rfl (by (try simp only [List.map_toArray, List.map_cons, List.map_nil]); first | done | rfl | (simp only [List.length_drop, List.length_take]; rfl)) ?_
   with_reducible refine (pr_Bytes.calls k1 0 4 t210 _ A26.out).mono ?_
   rintro e w47 ⟨rfl, hb⟩
   refine ⟨_, rfl, ?_⟩
   have n0_ := qas (blk_below (g := gb200) (o := .cells #[.slice (some ad203) l0_0.length c0_0] 24 (0, 0)) (by (with_reducible repeat (first | refine qkA ?_ _ | refine qkB ?_ | refine qkC ?_ _)); exact BK200.out) hb)
   have n1_ := qas (blk_below (g := gb204) (o := .cells #[.string ((rd_T39 l0_0 x6_1).f0), .bool ((rd_T39 l0_0 x6_1).f1), .slice A203_2 ((rd_T39 l0_0 x6_1).f2).length c203_2, .int .i64 ((rd_T39 l0_0 x6_1).f3), .int .i64 ((rd_T39 l0_0 x6_1).f4), .int .i64 ((rd_T39 l0_0 x6_1).f5), .string ((rd_T39 l0_0 x6_1).f6), .int .i64 ((rd_T39 l0_0 x6_1).f7), .int .i64 ((rd_T39 l0_0 x6_1).f8)] 39 (0, 0)) (by (with_reducible repeat (first | refine qkA ?_ _ | refine qkB ?_ | refine qkC ?_ _)); exact BK204.out) hb)
   have n2_ := qas (below_step (by repeat (first | (with_reducible first | exact HB.out | apply qbA | apply qbB | apply qbC | refine below_set ?_ GE200.out | refine below_set ?_ GE204.out) | exact HB.out)) hb)
   clear BK200
   clear BK204
   clear HB
   have BK200 := n0_
   have BK204 := n1_
   have HB := n2_
   clear n0_ n1_ n2_
   (try clear hb)
   (try clear hb2)
   (try clear hk)
   (try clear hi)
   refine hK.out _ _ ⟨(blk_cell BK204.out 0).trans rfl, (blk_cell BK204.out 1).trans rfl, (blk_cell BK204.out 2).trans rfl, (blk_cell BK204.out 3).trans rfl, (blk_cell BK204.out 4).trans rfl, (blk_cell BK204.out 5).trans rfl, (blk_cell BK204.out 6).trans rfl, (blk_cell BK204.out 7).trans rfl, (blk_cell BK204.out 8).trans rfl⟩ (fun hHeld => ?_)
   clear hK K
   refine norm_ (a' := ?_) ?_ ?_
   rotate_left
   ·show Act.put _ (some 43) _ = _
    simp only [Act.put, qsA, qsB, qsC, i64_w, i32_w, qsD, qsE]
    rfl
   refine pure_ (i := 10) (N := some 44) (v := ?_) (a' := ?_) #[qt, qt, qt, qt, qt, qt, qt, qt, qt, qt, qt, qt, qt, qf, qf, qt, qt, qf, qt, qf, qf] rfl rfl (any_of HT_.out (by kernel_rfl)) (fun _ _ _ h => h) (Or.inl ⟨by rfl, ?_⟩) ?_ ?_
   rotate_left
   ·intro w'
    go_simp
    with_reducible rfl
   rotate_left
   ·simp only [Act.put, qsA, qsB, qsC, i64_w, i32_w, qsD, qsE]
    rfl
   refine one_ (i := 13) (N := some 47) #[qt, qt, qt, qt, qt, qt, qt, qt, qt, qt, qt, qt, qt, qt, qf, qt, qt, qf, qt, qf, qf] rfl rfl (one_of HT_.out (by kernel_rfl)) (by decide) (fun K hK => ?_)
   refine goes_ Tryd.func53 (by kernel_rfl) rfl #[.int .i64 (x4_1.size : Int), .int .i64 4] (by rfl) rfl rfl (by (try simp only [List.map_toArray, List.map_cons, List.map_nil]); first | done | rfl | (simp only [List.length_drop, List.length_take]; rfl)) ?_
   with_reducible refine (pr_Bytes.calls k1 (x4_1.size : Int) 4 t211 _ A28.out).mono ?_
   rintro e w48 ⟨rfl, hb⟩
   refine ⟨_, rfl, ?_⟩
   have n0_ := qas (blk_below (g := gb200) (o := .cells #[.slice (some ad203) l0_0.length c0_0] 24 (0, 0)) (by (with_reducible repeat (first | refine qkA ?_ _ | refine qkB ?_ | refine qkC ?_ _)); exact BK200.out) hb)
   have n1_ := qas (blk_below (g := gb204) (o := .cells #[.string ((rd_T39 l0_0 x6_1).f0), .bool ((rd_T39 l0_0 x6_1).f1), .slice A203_2 ((rd_T39 l0_0 x6_1).f2).length c203_2, .int .i64 ((rd_T39 l0_0 x6_1).f3), .int .i64 ((rd_T39 l0_0 x6_1).f4), .int .i64 ((rd_T39 l0_0 x6_1).f5), .string ((rd_T39 l0_0 x6_1).f6), .int .i64 ((rd_T39 l0_0 x6_1).f7), .int .i64 ((rd_T39 l0_0 x6_1).f8)] 39 (0, 0)) (by (with_reducible repeat (first | refine qkA ?_ _ | refine qkB ?_ | refine qkC ?_ _)); exact BK204.out) hb)
   have n2_ := qas (below_step (by repeat (first | (with_reducible first | exact HB.out | apply qbA | apply qbB | apply qbC | refine below_set ?_ GE200.out | refine below_set ?_ GE204.out) | exact HB.out)) hb)
   clear BK200
   clear BK204
   clear HB
   have BK200 := n0_
   have BK204 := n1_
   have HB := n2_
   clear n0_ n1_ n2_
   (try clear hb)
   (try clear hb2)
   (try clear hk)
   (try clear hi)
   refine hK.out _ _ ⟨(blk_cell BK204.out 0).trans rfl, (blk_cell BK204.out 1).trans rfl, (blk_cell BK204.out 2).trans rfl, (blk_cell BK204.out 3).trans rfl, (blk_cell BK204.out 4).trans rfl, (blk_cell BK204.out 5).trans rfl, (blk_cell BK204.out 6).trans rfl, (blk_cell BK204.out 7).trans rfl, (blk_cell BK204.out 8).trans rfl⟩ (fun hHeld => ?_)
   clear hK K
   refine norm_ (a' := ?_) ?_ ?_
   rotate_left
   ·show Act.put _ (some 47) _ = _
    simp only [Act.put, qsA, qsB, qsC, i64_w, i32_w, qsD, qsE]
    rfl
   refine pure_ (i := 14) (N := some 48) (v := ?_) (a' := ?_) #[qt, qt, qt, qt, qt, qt, qt, qt, qt, qt, qt, qt, qt, qt, qt, qt, qt, qf, qt, qf, qf] rfl rfl (any_of HT_.out (by kernel_rfl)) (fun _ _ _ h => h) (Or.inl ⟨by rfl, ?_⟩) ?_ ?_
   rotate_left
   ·intro w'
    go_simp
    with_reducible rfl
   rotate_left
   ·simp only [Act.put, qsA, qsB, qsC, i64_w, i32_w, qsD, qsE]
    rfl
   refine pure_ (i := 17) (N := some 51) (v := ?_) (a' := ?_) #[qt, qt, qt, qt, qt, qt, qt, qt, qt, qt, qt, qt, qt, qt, qt, qt, qt, qt, qt, qf, qf] rfl rfl (any_of HT_.out (by kernel_rfl)) (fun _ _ _ h => h) (Or.inl ⟨by rfl, ?_⟩) ?_ ?_
   rotate_left
   ·intro w'
    go_simp
    with_reducible rfl
   rotate_left
   ·simp only [Act.put, qsA, qsB, qsC, i64_w, i32_w, qsD, qsE]
    rfl
   refine pure_ (i := 19) (N := some 53) (v := ?_) (a' := ?_) #[qt, qt, qt, qt, qt, qt, qt, qt, qt, qt, qt, qt, qt, qt, qt, qt, qt, qt, qt, qt, qf] rfl rfl (any_of HT_.out (by kernel_rfl)) (fun _ _ _ h => h) (Or.inl ⟨by rfl, ?_⟩) ?_ ?_
   rotate_left
   ·intro w'
    go_simp
    with_reducible rfl
   rotate_left
   ·simp only [Act.put, qsA, qsB, qsC, i64_w, i32_w, qsD, qsE]
    rfl
   refine pure_ (i := 20) (N := some 5) (v := ?_) (a' := ?_) #[qt, qt, qt, qt, qt, qt, qt, qt, qt, qt, qt, qt, qt, qt, qt, qt, qt, qt, qt, qt, qt] rfl rfl (any_of HT_.out (by kernel_rfl)) (fun _ _ _ h => h) (Or.inl ⟨by rfl, ?_⟩) ?_ ?_
   rotate_left
   ·intro w'
    go_simp
    with_reducible rfl
   rotate_left
   ·simp only [Act.put, qsA, qsB, qsC, i64_w, i32_w, qsD, qsE]
    rfl
   refine done_ (done_of HT_.out (by kernel_rfl)) ?_
   try go_wp2
   have n0_ := qas (qkB BK200.out)
   have n1_ := qas (qkB BK204.out)
   have n2_ := qas (qbC HB.out)
   clear BK200
   clear BK204
   clear HB
   have BK200 := n0_
   have BK204 := n1_
   have HB := n2_
   clear n0_ n1_ n2_
   refine start_ (n := 14) (S := fun w' => w'.cell? ⟨gb204, 0, none⟩ = some (.string ((rd_T39 l0_0 x6_1).f0)) ∧ w'.cell? ⟨gb204, 1, none⟩ = some (.bool ((rd_T39 l0_0 x6_1).f1)) ∧ w'.cell? ⟨gb204, 2, none⟩ = some (.slice A203_2 ((rd_T39 l0_0 x6_1).f2).length c203_2) ∧ w'.cell? ⟨gb204, 3, none⟩ = some (.int .i64 ((rd_T39 l0_0 x6_1).f3)) ∧ w'.cell? ⟨gb204, 4, none⟩ = some (.int .i64 ((rd_T39 l0_0 x6_1).f4)) ∧ w'.cell? ⟨gb204, 5, none⟩ = some (.int .i64 ((rd_T39 l0_0 x6_1).f5)) ∧ w'.cell? ⟨gb204, 6, none⟩ = some (.string ((rd_T39 l0_0 x6_1).f6)) ∧ w'.cell? ⟨gb204, 7, none⟩ = some (.int .i64 ((rd_T39 l0_0 x6_1).f7)) ∧ w'.cell? ⟨gb204, 8, none⟩ = some (.int .i64 ((rd_T39 l0_0 x6_1).f8))) (ds := []) #[qf, qf, qf, qf, qf, qf, qf, qf, qf, qf, qf, qf, qf, qf] (by kernel_rfl) rfl rfl ⟨(blk_cell BK204.out 0).trans rfl, (blk_cell BK204.out 1).trans rfl, (blk_cell BK204.out 2).trans rfl, (blk_cell BK204.out 3).trans rfl, (blk_cell BK204.out 4).trans rfl, (blk_cell BK204.out 5).trans rfl, (blk_cell BK204.out 6).trans rfl, (blk_cell BK204.out 7).trans rfl, (blk_cell BK204.out 8).trans rfl⟩ (fun hHeld => ?_); refine with_tabW pr_PutZip.tab12 pr_PutZip.bits12 (fun HT_ HW_ => ?_)
   generalize w48.drew = w49 at BK200 BK204 HB hHeld ⊢
   refine pure_ (i := 0) (N := some 54) (v := ?_) (a' := ?_) #[qt, qf, qf, qf, qf, qf, qf, qf, qf, qf, qf, qf, qf, qf] rfl rfl (any_of HT_.out (by kernel_rfl)) (fun _ _ _ h => h) (Or.inl ⟨by rfl, ?_⟩) ?_ ?_
   rotate_left
   ·intro w'
    go_simp
    with_reducible rfl
   rotate_left
   ·simp only [Act.put, qsA, qsB, qsC, i64_w, i32_w, qsD, qsE]
    rfl
   refine pure_ (i := 1) (N := some 55) (v := ?_) (a' := ?_) #[qt, qt, qf, qf, qf, qf, qf, qf, qf, qf, qf, qf, qf, qf] rfl rfl (any_of HT_.out (by kernel_rfl)) (fun _ _ _ h => h) (Or.inl ⟨by rfl, ?_⟩) ?_ ?_
   rotate_left
   ·intro w'
    go_simp
    with_reducible rfl
   rotate_left
   ·simp only [Act.put, qsA, qsB, qsC, i64_w, i32_w, qsD, qsE]
    rfl
   refine pure_ (i := 5) (N := some 59) (v := ?_) (a' := ?_) #[qt, qt, qf, qf, qf, qt, qf, qf, qf, qf, qf, qf, qf, qf] rfl rfl (any_of HT_.out (by kernel_rfl)) (fun _ _ _ h => h) (Or.inl ⟨by rfl, ?_⟩) ?_ ?_
   rotate_left
   ·intro w'
    go_simp
    with_reducible rfl
   rotate_left
   ·simp only [Act.put, qsA, qsB, qsC, i64_w, i32_w, qsD, qsE]
    rfl
   refine pure_ (i := 8) (N := some 62) (v := ?_) (a' := ?_) #[qt, qt, qf, qf, qf, qt, qf, qf, qt, qf, qf, qf, qf, qf] rfl rfl (any_of HT_.out (by kernel_rfl)) (fun _ _ _ h => h) (Or.inl ⟨by rfl, ?_⟩) ?_ ?_
   rotate_left
   ·intro w'
    go_simp
    with_reducible rfl
   rotate_left
   ·simp only [Act.put, qsA, qsB, qsC, i64_w, i32_w, qsD, qsE]
    rfl
   refine pure_ (i := 10) (N := some 64) (v := ?_) (a' := ?_) #[qt, qt, qf, qf, qf, qt, qf, qf, qt, qf, qt, qf, qf, qf] rfl rfl (any_of HT_.out (by kernel_rfl)) (fun _ _ _ h => h) (Or.inl ⟨by rfl, ?_⟩) ?_ ?_
   rotate_left
   ·intro w'
    go_simp
    with_reducible rfl
   rotate_left
   ·simp only [Act.put, qsA, qsB, qsC, i64_w, i32_w, qsD, qsE]
    rfl
   refine take_ (i := 2) (N := some 56) (v := ?_) (a' := ?_) #[qt, qt, qt, qf, qf, qt, qf, qf, qt, qf, qt, qf, qf, qf] rfl rfl (take_ofW HT_.out HW_.out (by kernel_rfl)) (fun _ _ _ h => h) (Or.inl ⟨by rfl, ?_⟩) hHeld ?_ ?_
   rotate_left
   ·rintro w' ⟨s0, s1, s2, s3, s4, s5, s6, s7, s8⟩
    go_simp
    with_reducible rfl
   rotate_left
   ·simp only [Act.put, qsA, qsB, qsC, i64_w, i32_w, qsD, qsE]
    rfl
   refine take_ (i := 6) (N := some 60) (v := ?_) (a' := ?_) #[qt, qt, qt, qf, qf, qt, qt, qf, qt, qf, qt, qf, qf, qf] rfl rfl (take_ofW HT_.out HW_.out (by kernel_rfl)) (fun _ _ _ h => h) (Or.inl ⟨by rfl, ?_⟩) hHeld ?_ ?_
   rotate_left
   ·rintro w' ⟨s0, s1, s2, s3, s4, s5, s6, s7, s8⟩
    go_simp
    with_reducible rfl
   rotate_left
   ·simp only [Act.put, qsA, qsB, qsC, i64_w, i32_w, qsD, qsE]
    rfl
   refine take_ (i := 11) (N := some 65) (v := ?_) (a' := ?_) #[qt, qt, qt, qf, qf, qt, qt, qf, qt, qf, qt, qt, qf, qf] rfl rfl (take_ofW HT_.out HW_.out (by kernel_rfl)) (fun _ _ _ h => h) (Or.inl ⟨by rfl, ?_⟩) hHeld ?_ ?_
   rotate_left
   ·rintro w' ⟨s0, s1, s2, s3, s4, s5, s6, s7, s8⟩
    go_simp
    with_reducible rfl
   rotate_left
   ·simp only [Act.put, qsA, qsB, qsC, i64_w, i32_w, qsD, qsE]
    rfl
   refine one_ (i := 3) (N := some 57) #[qt, qt, qt, qt, qf, qt, qt, qf, qt, qf, qt, qt, qf, qf] rfl rfl (one_of HT_.out (by kernel_rfl)) (by decide) (fun K hK => ?_)
   refine goes_ Tryd.func54 (by kernel_rfl) rfl #[.agg #[.string ((rd_T39 l0_0 x6_1).f0), .bool ((rd_T39 l0_0 x6_1).f1), .slice A203_2 ((rd_T39 l0_0 x6_1).f2).length c203_2, .int .i64 ((rd_T39 l0_0 x6_1).f3), .int .i64 ((rd_T39 l0_0 x6_1).f4), .int .i64 ((rd_T39 l0_0 x6_1).f5), .string ((rd_T39 l0_0 x6_1).f6), .int .i64 ((rd_T39 l0_0 x6_1).f7), .int .i64 ((rd_T39 l0_0 x6_1).f8)]] (by rfl) rfl rfl (by (try simp only [List.map_toArray, List.map_cons, List.map_nil]); first | done | rfl | (simp only [List.length_drop, List.length_take]; rfl)) ?_
   with_reducible refine (pr_common.calls k1 ((rd_T39 l0_0 x6_1).f0) ((rd_T39 l0_0 x6_1).f1) _ _ ((rd_T39 l0_0 x6_1).f2) ((rd_T39 l0_0 x6_1).f3) ((rd_T39 l0_0 x6_1).f4) ((rd_T39 l0_0 x6_1).f5) ((rd_T39 l0_0 x6_1).f6) ((rd_T39 l0_0 x6_1).f7) ((rd_T39 l0_0 x6_1).f8) t212 _ ?side1 ?side2 A33.out).mono ?_
   (case side1 => repeat (first | exact (Kd.C_below HR203_2.out HB.out) | (with_reducible refine Kd.C_alloc ?_ _) | (with_reducible refine Kd.C_drewN ?_ _) | (with_reducible refine Kd.C_drew ?_)))
   (case side2 => exact HC203_2.out)
   rintro e w50 ⟨rfl, hb⟩
   refine ⟨_, rfl, ?_⟩
   have n0_ := qas (blk_below (g := gb200) (o := .cells #[.slice (some ad203) l0_0.length c0_0] 24 (0, 0)) (by (with_reducible repeat (first | refine qkA ?_ _ | refine qkB ?_ | refine qkC ?_ _)); exact BK200.out) hb)
   have n1_ := qas (blk_below (g := gb204) (o := .cells #[.string ((rd_T39 l0_0 x6_1).f0), .bool ((rd_T39 l0_0 x6_1).f1), .slice A203_2 ((rd_T39 l0_0 x6_1).f2).length c203_2, .int .i64 ((rd_T39 l0_0 x6_1).f3), .int .i64 ((rd_T39 l0_0 x6_1).f4), .int .i64 ((rd_T39 l0_0 x6_1).f5), .string ((rd_T39 l0_0 x6_1).f6), .int .i64 ((rd_T39 l0_0 x6_1).f7), .int .i64 ((rd_T39 l0_0 x6_1).f8)] 39 (0, 0)) (by (with_reducible repeat (first | refine qkA ?_ _ | refine qkB ?_ | refine qkC ?_ _)); exact BK204.out) hb)
   have n2_ := qas (below_step (by repeat (first | (with_reducible first | exact HB.out | apply qbA | apply qbB | apply qbC | refine below_set ?_ GE200.out | refine below_set ?_ GE204.out) | exact HB.out)) hb)
   clear BK200
   clear BK204
   clear HB
   have BK200 := n0_
   have BK204 := n1_
   have HB := n2_
   clear n0_ n1_ n2_
   (try clear hb)
   (try clear hb2)
   (try clear hk)
   (try clear hi)
   refine hK.out _ _ ⟨(blk_cell BK204.out 0).trans rfl, (blk_cell BK204.out 1).trans rfl, (blk_cell BK204.out 2).trans rfl, (blk_cell BK204.out 3).trans rfl, (blk_cell BK204.out 4).trans rfl, (blk_cell BK204.out 5).trans rfl, (blk_cell BK204.out 6).trans rfl, (blk_cell BK204.out 7).trans rfl, (blk_cell BK204.out 8).trans rfl⟩ (fun hHeld => ?_)
   clear hK K
   refine norm_ (a' := ?_) ?_ ?_
   rotate_left
   ·show Act.put _ (some 57) _ = _
    simp only [Act.put, qsA, qsB, qsC, i64_w, i32_w, qsD, qsE]
    rfl
   refine pure_ (i := 4) (N := some 58) (v := ?_) (a' := ?_) #[qt, qt, qt, qt, qt, qt, qt, qf, qt, qf, qt, qt, qf, qf] rfl rfl (any_of HT_.out (by kernel_rfl)) (fun _ _ _ h => h) (Or.inl ⟨by rfl, ?_⟩) ?_ ?_
   rotate_left
   ·intro w'
    go_simp
    with_reducible rfl
   rotate_left
   ·simp only [Act.put, qsA, qsB, qsC, i64_w, i32_w, qsD, qsE]
    rfl
   refine pure_ (i := 7) (N := some 61) (v := ?_) (a' := ?_) #[qt, qt, qt, qt, qt, qt, qt, qt, qt, qf, qt, qt, qf, qf] rfl rfl (any_of HT_.out (by kernel_rfl)) (fun _ _ _ h => h) (Or.inl ⟨by rfl, ?_⟩) ?_ ?_
   rotate_left
   ·intro w'
    go_simp
    with_reducible rfl
   rotate_left
   ·simp only [Act.put, qsA, qsB, qsC, i64_w, i32_w, qsD, qsE]
    rfl
   refine pure_ (i := 9) (N := some 63) (v := ?_) (a' := ?_) #[qt, qt, qt, qt, qt, qt, qt, qt, qt, qt, qt, qt, qf, qf] rfl rfl (any_of HT_.out (by kernel_rfl)) (fun _ _ _ h => h) (Or.inl ⟨by rfl, ?_⟩) ?_ ?_
   rotate_left
   ·intro w'
    go_simp
    with_reducible rfl
   rotate_left
   ·simp only [Act.put, qsA, qsB, qsC, i64_w, i32_w, qsD, qsE]
    rfl
   refine pure_ (i := 12) (N := some 66) (v := ?_) (a' := ?_) #[qt, qt, qt, qt, qt, qt, qt, qt, qt, qt, qt, qt, qt, qf] rfl rfl (any_of HT_.out (by kernel_rfl)) (fun _ _ _ h => h) (Or.inl ⟨by rfl, ?_⟩) ?_ ?_
   rotate_left
   ·intro w'
    go_simp
    with_reducible rfl
   rotate_left
   ·simp only [Act.put, qsA, qsB, qsC, i64_w, i32_w, qsD, qsE]
    rfl
   refine pure_ (i := 13) (N := some 4) (v := ?_) (a' := ?_) #[qt, qt, qt, qt, qt, qt, qt, qt, qt, qt, qt, qt, qt, qt] rfl rfl (any_of HT_.out (by kernel_rfl)) (fun _ _ _ h => h) (Or.inl ⟨by rfl, ?_⟩) ?_ ?_
   rotate_left
   ·intro w'
    go_simp
    with_reducible rfl
   rotate_left
   ·simp only [Act.put, qsA, qsB, qsC, i64_w, i32_w, qsD, qsE]
    rfl
   refine done_ (done_of HT_.out (by kernel_rfl)) ?_
   try go_wp2
   go_roundg k1
   case measure => have := HK1.out; omega
   case rel => exact ⟨(((((x4_1 ++ (⟨#[80, 75, 3, 4]⟩ : ByteArray)) ++ t212) ++ ((rd_T39 l0_0 x6_1).f0)) ++ t205) ++ ((rd_T39 l0_0 x6_1).f6)), ((((((((x5_1 ++ (⟨#[80, 75, 1, 2]⟩ : ByteArray)) ++ t207) ++ t208) ++ t209) ++ t210) ++ t211) ++ ((rd_T39 l0_0 x6_1).f0)) ++ t205), (wrap64 (x6_1 + 1)), (by first | rfl | (simp; done) | (simp [*]; done)), (by first | rfl | (simp; done) | (simp [*]; done)), (by first | rfl | (simp; done) | (simp [*]; done)), H', ⟨by have := HK1.out; omega⟩, ⟨by (with_reducible repeat (first | refine qkA ?_ _ | refine qkB ?_ | refine qkC ?_ _)); exact BK200.out⟩, ⟨by repeat (first | (with_reducible first | exact HB.out | apply qbA | apply qbB | apply qbC | refine below_set ?_ GE200.out | refine below_set ?_ GE204.out) | exact HB.out)⟩⟩

end Go.Proofs.YtneogampbohfnaaDoor.ZZ
