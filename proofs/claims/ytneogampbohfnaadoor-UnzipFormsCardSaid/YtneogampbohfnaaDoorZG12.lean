-- Printed out of the translation by a program of this session.
import Derived.Test.YtneogampbohfnaaDoorZG0
import Derived.Test.YtneogampbohfnaaDoorZG8
namespace Go.Proofs.YtneogampbohfnaaDoor.ZG
open Go.Proofs.YtneogampbohfnaaDoor.ZB (S39 z39 k39 k39_open k39_openM k39_mk k39_mkM rd_T39 at_T39)
open Go.RowKit Go.Proofs.YtneogampbohfnaaDoorW.PrintWords Go.Proofs.YtneogampbohfnaaDoorW.PrintLast Go.Proofs.YtneogampbohfnaaDoorW.PrintMore
attribute [local go_sem] max2_int min2_int max_two min_two max_three min_three max_four min_four   -- for this text's walks alone
set_option linter.unusedVariables false
set_option linter.unusedSimpArgs false

/-! ### pn_UnzipForms: function 11 -/
def pn_UnzipForms.j0 : Nat → Int → ByteArray → ByteArray → Bool → Option (Bool)
 | 0, _, _, _, _ => none
 | k + 1, x0, x4, x6, x44 => if x44 = true then (none) else (if 0 ≤ 59 then (if 59 ≤ (x4.size : Int) then (if x6.size + x6.size ≤ 9223372036854775807 then (if x4.size + x6.size ≤ 9223372036854775807 then (if x6.size + x4.size ≤ 9223372036854775807 then (if (x4.extract 0 59).size + (x4.extract 0 59).size ≤ 9223372036854775807 then (if 0 ≤ ((x4.extract 0 59).size : Int) then (if ((x4.extract 0 59).size : Int) ≤ (x4.size : Int) then (if ((x4.extract 0 59) ++ (x4.extract 0 59)).size + (x4.extract (((x4.extract 0 59).size : Int) : Int).toNat x4.size).size ≤ 9223372036854775807 then (if (x4.extract 0 59).size + x6.size ≤ 9223372036854775807 then (if 0 ≤ (wrap64 ((x4.size : Int) - 1)) then (if (wrap64 ((x4.size : Int) - 1)) ≤ (x4.size : Int) then (if 1 + x4.size ≤ 9223372036854775807 then (if 0 ≤ (wrap64 ((x4.size : Int) - 22)) then (if (wrap64 ((x4.size : Int) - 22)) ≤ (x4.size : Int) then (if 0 ≤ 21 then (if 21 ≤ (x6.size : Int) then (if (x6.extract 0 21).size + 1 ≤ 9223372036854775807 then ((some (([(⟨#[]⟩ : ByteArray), (⟨#[80]⟩ : ByteArray), (⟨#[80, 75, 5, 6]⟩ : ByteArray), x6 ++ x6, x4 ++ x6, x6 ++ x4, x4.extract 0 59, ((x4.extract 0 59) ++ (x4.extract 0 59)) ++ (x4.extract (((x4.extract 0 59).size : Int) : Int).toNat x4.size), (x4.extract 0 59) ++ x6, x4.extract (((x4.extract 0 59).size : Int) : Int).toNat x4.size, x4.extract 0 ((wrap64 ((x4.size : Int) - 1)) : Int).toNat, (⟨#[0]⟩ : ByteArray) ++ x4, x4.extract 0 ((wrap64 ((x4.size : Int) - 22)) : Int).toNat, (x6.extract 0 21) ++ (⟨#[1]⟩ : ByteArray)] : List ByteArray) : List ByteArray)).bind fun y325 => (if 0 ≤ (wrap64 (Int.tmod (IntKind.u64.wrap (x0)) 14)) then (if (wrap64 (Int.tmod (IntKind.u64.wrap (x0)) 14)) < (y325.length : Int) then ((zipget_Get.f k (rdOf ByteArray.empty y325 (wrap64 (Int.tmod (IntKind.u64.wrap (x0)) 14)))).bind fun bt329 => (if (bt329.1.length : Int) = 0 then ((pl_Num.f bt329.2).bind fun t334 => (some (t334 == 1400))) else (none))) else (none)) else (none))) else (none)) else (none)) else (none)) else (none)) else (none)) else (none)) else (none)) else (none)) else (none)) else (none)) else (none)) else (none)) else (none)) else (none)) else (none)) else (none)) else (none)) else (none))
def pn_UnzipForms.f (k : Nat) (a0 : Int) : Option (Bool) := (pn_awake.f k).bind fun t303 => (if t303 = true then ((pn_small.f k (⟨#[97]⟩ : ByteArray) 0 1 (⟨#[104, 105]⟩ : ByteArray)).bind fun bt304 => ((zipput_Put.f (([(⟨bt304.1, bt304.2.1, bt304.2.2.1, bt304.2.2.2.1, bt304.2.2.2.2.1, bt304.2.2.2.2.2.1, bt304.2.2.2.2.2.2.1, bt304.2.2.2.2.2.2.2.1, bt304.2.2.2.2.2.2.2.2⟩ : S39)] : List (S39)))).bind fun bt319 => ((zipput_Put.f ([] : List (S39))).bind fun bt321 => ((pl_Num.f bt319.2).bind fun t323 => (if t323 = 0 then ((pl_Num.f bt321.2).bind fun t324 => (if t324 = 0 then (if (bt321.1.size : Int) = 22 then (pn_UnzipForms.j0 k a0 bt319.1 bt321.1 (decide ((bt319.1.size : Int) < 100))) else (pn_UnzipForms.j0 k a0 bt319.1 bt321.1 true)) else (pn_UnzipForms.j0 k a0 bt319.1 bt321.1 true))) else (pn_UnzipForms.j0 k a0 bt319.1 bt321.1 true)))))) else (none))
theorem pn_UnzipForms.mono_l : ∀ k, (∀ y0 y1 y2 y3, LeO (pn_UnzipForms.j0 k y0 y1 y2 y3) (pn_UnzipForms.j0 (k + 1) y0 y1 y2 y3))
 | 0 => fun _ _ _ _ r h => by simp [pn_UnzipForms.j0] at h
 | k + 1 => by
  have ih0 := pn_UnzipForms.mono_l k
  ·intro y0 y1 y2 y3
   unfold pn_UnzipForms.j0
   repeat' first
   | (with_reducible exact ih0 _ _ _ _)
   | (with_reducible exact pn_awake.mono _)
   | (with_reducible exact pn_small.mono _ _ _ _ _)
   | (with_reducible exact zipget_Get.mono _ _)
   | (with_reducible exact LeO.refl _)
   | (with_reducible exact LeO.none _)
   | (with_reducible refine LeO.ite ?_ ?_)
   | (with_reducible refine LeO.bind ?_ (fun _ => ?_))
   | exact ih0 _ _ _ _
   | exact pn_awake.mono _
   | exact pn_small.mono _ _ _ _ _
   | exact zipget_Get.mono _ _
   | exact LeO.none _
   | refine LeO.ite ?_ ?_
   | refine LeO.bind ?_ (fun _ => ?_)
theorem pn_UnzipForms.mono : ∀ a0 k, LeO (pn_UnzipForms.f k a0) (pn_UnzipForms.f (k + 1) a0) := by
 intro a0 k
 have ih0 := pn_UnzipForms.mono_l k
 unfold pn_UnzipForms.f
 repeat' first
   | (with_reducible exact ih0 _ _ _ _)
   | (with_reducible exact pn_awake.mono _)
   | (with_reducible exact pn_small.mono _ _ _ _ _)
   | (with_reducible exact zipget_Get.mono _ _)
   | (with_reducible exact LeO.refl _)
   | (with_reducible exact LeO.none _)
   | (with_reducible refine LeO.ite ?_ ?_)
   | (with_reducible refine LeO.bind ?_ (fun _ => ?_))
   | exact ih0 _ _ _ _
   | exact pn_awake.mono _
   | exact pn_small.mono _ _ _ _ _
   | exact zipget_Get.mono _ _
   | exact LeO.none _
   | refine LeO.ite ?_ ?_
   | refine LeO.bind ?_ (fun _ => ?_)
def pn_UnzipForms.T9 : Bool × List (List Nat × List Nat) := (true, [([], []), ([], []), ([0, 1], [0, 1]), ([], []), ([], []), ([3, 4], [3, 4]), ([], []), ([], []), ([6, 7], [6, 7]), ([], []), ([], []), ([], []), ([10, 11], [10, 11]), ([], []), ([], []), ([14], [14]), ([13, 15], [13, 15]), ([12, 16], [12, 16]), ([], []), ([], []), ([18, 19], [18, 19]), ([], []), ([], []), ([22], [22]), ([21, 23], [21, 23]), ([], []), ([], []), ([26], [26]), ([27], [27]), ([25, 28], [25, 28]), ([], []), ([30], [30]), ([], []), ([], []), ([33], [33]), ([34], [34]), ([32, 35], [32, 35]), ([], []), ([37], [37]), ([38], [38]), ([2, 5, 8, 9, 17, 20, 24, 29, 31, 36, 39], [2, 5, 8, 9, 17, 20, 24, 29, 31, 36, 39]), ([40, 0, 1, 2, 3, 4, 5, 6, 7, 8, 9, 10, 11, 12, 13, 14, 15, 16, 17, 18, 19, 20, 21, 22, 23, 24, 25, 26, 27, 28, 29, 30, 31, 32, 33, 34, 35, 36, 37, 38, 39, 40], [40])])
def pn_UnzipForms.B9 : List Nat := [0, 0, 3, 0, 0, 24, 0, 0, 192, 0, 0, 0, 3072, 0, 0, 16384, 57344, 130048, 0, 0, 786432, 0, 0, 4194304, 14680064, 0, 0, 67108864, 201326592, 503316480, 0, 1073741824, 0, 0, 8589934592, 25769803776, 64424509440, 0, 137438953472, 412316860416, 1099511627775, 2199023255551]
theorem pn_UnzipForms.tab9 : rtab .any (opsOf Tryd.f11 9) = pn_UnzipForms.T9 := by kernel_rfl
theorem pn_UnzipForms.bits9 : waitsOk pn_UnzipForms.T9.2 pn_UnzipForms.B9 = true := by kernel_rfl
set_option maxHeartbeats 8000000 in
set_option maxRecDepth 100000 in
theorem pn_UnzipForms.calls (k : Nat) (a0 : Int) (r : Bool) (w : World) (h : pn_UnzipForms.f k a0 = some r) :
  Calls Tryd.prog 11 #[.int .i64 a0] w fun e w' => e = .returned (.bool r) ∧ Below w.heap.size w w' := by
 have hu24 := Tryd.underlying24
 have HB := qas (Below.refl w.heap.size w)
 have H : ((pn_awake.f k).bind fun t303 => (if t303 = true then ((pn_small.f k (⟨#[97]⟩ : ByteArray) 0 1 (⟨#[104, 105]⟩ : ByteArray)).bind fun bt304 => ((zipput_Put.f (([(⟨bt304.1, bt304.2.1, bt304.2.2.1, bt304.2.2.2.1, bt304.2.2.2.2.1, bt304.2.2.2.2.2.1, bt304.2.2.2.2.2.2.1, bt304.2.2.2.2.2.2.2.1, bt304.2.2.2.2.2.2.2.2⟩ : S39)] : List (S39)))).bind fun bt319 => ((zipput_Put.f ([] : List (S39))).bind fun bt321 => ((pl_Num.f bt319.2).bind fun t323 => (if t323 = 0 then ((pl_Num.f bt321.2).bind fun t324 => (if t324 = 0 then (if (bt321.1.size : Int) = 22 then (pn_UnzipForms.j0 k a0 bt319.1 bt321.1 (decide ((bt319.1.size : Int) < 100))) else (pn_UnzipForms.j0 k a0 bt319.1 bt321.1 true)) else (pn_UnzipForms.j0 k a0 bt319.1 bt321.1 true))) else (pn_UnzipForms.j0 k a0 bt319.1 bt321.1 true)))))) else (none))) = some r := h
 clear h
 replace H := Option.bind_eq_some_iff.mp H
 obtain ⟨t303, A20, H⟩ := H
 replace H : (if t303 = true then ((pn_small.f k (⟨#[97]⟩ : ByteArray) 0 1 (⟨#[104, 105]⟩ : ByteArray)).bind fun bt304 => ((zipput_Put.f (([(⟨bt304.1, bt304.2.1, bt304.2.2.1, bt304.2.2.2.1, bt304.2.2.2.2.1, bt304.2.2.2.2.2.1, bt304.2.2.2.2.2.2.1, bt304.2.2.2.2.2.2.2.1, bt304.2.2.2.2.2.2.2.2⟩ : S39)] : List (S39)))).bind fun bt319 => ((zipput_Put.f ([] : List (S39))).bind fun bt321 => ((pl_Num.f bt319.2).bind fun t323 => (if t323 = 0 then ((pl_Num.f bt321.2).bind fun t324 => (if t324 = 0 then (if (bt321.1.size : Int) = 22 then (pn_UnzipForms.j0 k a0 bt319.1 bt321.1 (decide ((bt319.1.size : Int) < 100))) else (pn_UnzipForms.j0 k a0 bt319.1 bt321.1 true)) else (pn_UnzipForms.j0 k a0 bt319.1 bt321.1 true))) else (pn_UnzipForms.j0 k a0 bt319.1 bt321.1 true)))))) else (none)) = some r := H
 have A2 := qas A20
 clear A20
 by_cases c3 : t303 = true
 rotate_left
 ·replace c3 := Bool.eq_false_iff.mpr c3
  subst c3
  have H1 : (none) = some r := by rw [if_neg (show ¬ (false = true) by decide)] at H; exact H
  clear H
  have H := H1
  clear H1
  exact absurd H (by simp)
 subst c3
 have H1 : ((pn_small.f k (⟨#[97]⟩ : ByteArray) 0 1 (⟨#[104, 105]⟩ : ByteArray)).bind fun bt304 => ((zipput_Put.f (([(⟨bt304.1, bt304.2.1, bt304.2.2.1, bt304.2.2.2.1, bt304.2.2.2.2.1, bt304.2.2.2.2.2.1, bt304.2.2.2.2.2.2.1, bt304.2.2.2.2.2.2.2.1, bt304.2.2.2.2.2.2.2.2⟩ : S39)] : List (S39)))).bind fun bt319 => ((zipput_Put.f ([] : List (S39))).bind fun bt321 => ((pl_Num.f bt319.2).bind fun t323 => (if t323 = 0 then ((pl_Num.f bt321.2).bind fun t324 => (if t324 = 0 then (if (bt321.1.size : Int) = 22 then (pn_UnzipForms.j0 k a0 bt319.1 bt321.1 (decide ((bt319.1.size : Int) < 100))) else (pn_UnzipForms.j0 k a0 bt319.1 bt321.1 true)) else (pn_UnzipForms.j0 k a0 bt319.1 bt321.1 true))) else (pn_UnzipForms.j0 k a0 bt319.1 bt321.1 true)))))) = some r := by rw [if_pos rfl] at H; exact H
 clear H
 have H := H1
 clear H1
 replace H := Option.bind_eq_some_iff.mp H
 obtain ⟨⟨t304, t305, t306, t309, t310, t311, t312, t313, t314⟩, A40, H⟩ := H
 replace H : ((zipput_Put.f (([(⟨t304, t305, t306, t309, t310, t311, t312, t313, t314⟩ : S39)] : List (S39)))).bind fun bt319 => ((zipput_Put.f ([] : List (S39))).bind fun bt321 => ((pl_Num.f bt319.2).bind fun t323 => (if t323 = 0 then ((pl_Num.f bt321.2).bind fun t324 => (if t324 = 0 then (if (bt321.1.size : Int) = 22 then (pn_UnzipForms.j0 k a0 bt319.1 bt321.1 (decide ((bt319.1.size : Int) < 100))) else (pn_UnzipForms.j0 k a0 bt319.1 bt321.1 true)) else (pn_UnzipForms.j0 k a0 bt319.1 bt321.1 true))) else (pn_UnzipForms.j0 k a0 bt319.1 bt321.1 true))))) = some r := H
 have A4 := qas A40
 clear A40
 obtain ⟨y315, hy315⟩ : ∃ y_ : List (S39), y_ = (([(⟨t304, t305, t306, t309, t310, t311, t312, t313, t314⟩ : S39)] : List (S39))) := ⟨_, rfl⟩
 replace H : ((zipput_Put.f y315).bind fun bt319 => ((zipput_Put.f ([] : List (S39))).bind fun bt321 => ((pl_Num.f bt319.2).bind fun t323 => (if t323 = 0 then ((pl_Num.f bt321.2).bind fun t324 => (if t324 = 0 then (if (bt321.1.size : Int) = 22 then (pn_UnzipForms.j0 k a0 bt319.1 bt321.1 (decide ((bt319.1.size : Int) < 100))) else (pn_UnzipForms.j0 k a0 bt319.1 bt321.1 true)) else (pn_UnzipForms.j0 k a0 bt319.1 bt321.1 true))) else (pn_UnzipForms.j0 k a0 bt319.1 bt321.1 true))))) = some r := by first | (rw [hy315]; with_reducible exact H) | (have H2_ := (Option.bind_some _ _).symm.trans H; rw [hy315]; with_reducible exact H2_) | (have H2_ := (Option.bind_some _ _).symm.trans H; with_reducible exact H2_) | with_reducible exact H | (rw [hy315]; exact H) | exact H
 have Ny315 := qas hy315
 clear hy315
 replace H := Option.bind_eq_some_iff.mp H
 obtain ⟨⟨t319, t320⟩, A50, H⟩ := H
 replace H : ((zipput_Put.f ([] : List (S39))).bind fun bt321 => ((pl_Num.f t320).bind fun t323 => (if t323 = 0 then ((pl_Num.f bt321.2).bind fun t324 => (if t324 = 0 then (if (bt321.1.size : Int) = 22 then (pn_UnzipForms.j0 k a0 t319 bt321.1 (decide ((t319.size : Int) < 100))) else (pn_UnzipForms.j0 k a0 t319 bt321.1 true)) else (pn_UnzipForms.j0 k a0 t319 bt321.1 true))) else (pn_UnzipForms.j0 k a0 t319 bt321.1 true)))) = some r := H
 have A5 := qas A50
 clear A50
 replace H := Option.bind_eq_some_iff.mp H
 obtain ⟨⟨t321, t322⟩, A60, H⟩ := H
 replace H : ((pl_Num.f t320).bind fun t323 => (if t323 = 0 then ((pl_Num.f t322).bind fun t324 => (if t324 = 0 then (if (t321.size : Int) = 22 then (pn_UnzipForms.j0 k a0 t319 t321 (decide ((t319.size : Int) < 100))) else (pn_UnzipForms.j0 k a0 t319 t321 true)) else (pn_UnzipForms.j0 k a0 t319 t321 true))) else (pn_UnzipForms.j0 k a0 t319 t321 true))) = some r := H
 have A6 := qas A60
 clear A60
 have HC7 := qas H
 clear H
 go_enter Tryd.func11, Tryd.ntmps11
 go_upto_region 6 with (first | ((with_reducible refine gate_callee (f := 31) rfl ?_); refine goesL_ (some 12) rfl rfl Tryd.func31 (by kernel_rfl) rfl #[] rfl (by (try simp only [List.map_toArray, List.map_cons, List.map_nil]); first | done | rfl | (simp only [List.length_drop, List.length_take]; rfl)) ?_; (with_reducible refine (pn_awake.calls k  true _ A2.out).mono ?_); rintro e w8 ⟨rfl, hb⟩; refine ⟨_, rfl, ?_⟩; have n0_ := qas (below_step (by repeat (first | (with_reducible first | exact HB.out | apply qbA | apply qbB | apply qbC) | exact HB.out)) hb); clear HB; have HB := n0_; clear n0_; (try clear hb); (try clear hb2); (try clear hk); (try clear hi)) | ((with_reducible refine gate_callee (f := 32) rfl ?_); refine goesL_ (some 14) rfl rfl Tryd.func32 (by kernel_rfl) rfl #[.string (⟨#[97]⟩ : ByteArray), .int .i64 0, .int .i64 1, .string (⟨#[104, 105]⟩ : ByteArray)] rfl (by (try simp only [List.map_toArray, List.map_cons, List.map_nil]); first | done | rfl | (simp only [List.length_drop, List.length_take]; rfl)) ?_; (with_reducible refine (pn_small.calls k (⟨#[97]⟩ : ByteArray) 0 1 (⟨#[104, 105]⟩ : ByteArray) t304 t305 t306 t309 t310 t311 t312 t313 t314 _ A4.out).mono ?_); rintro e w9 ⟨v307, rfl, ho0, hb⟩; refine ⟨_, rfl, ?_⟩; have n0_ := qas (Kd.R_lower ho0 (below_size (by repeat (first | (with_reducible first | exact HB.out | apply qbA | apply qbB | apply qbC) | exact HB.out)))); have n1_ := qas (below_step (by repeat (first | (with_reducible first | exact HB.out | apply qbA | apply qbB | apply qbC) | exact HB.out)) hb); clear HB; have HO308 := n0_; have HB := n1_; clear n0_ n1_; (try clear hb); (try clear hb2); (try clear hk); (try clear hi); (try clear ho0); obtain ⟨Ao10, co10, eo10⟩ := Kd.R_slice HO308.out; subst eo10) | ((with_reducible refine gate_dst (N := 15) rfl ?_); (try (refine gate_guard (by rfl) ?_; dsimp only)); refine Kd.N_lit k39 _ 39 ?hg (N' := 15) ?hd (xs := ([(⟨t304, t305, t306, t309, t310, t311, t312, t313, t314⟩ : S39)] : List (S39))) (inner := [.string t304, .bool t305, .slice Ao10 t306.length co10, .int .i64 t309, .int .i64 t310, .int .i64 t311, .string t312, .int .i64 t313, .int .i64 t314]) (ok := (fun _ => True)) (okp := (fun _ => True)) ?hr ?hp (fun _ hk => hk) ((show ∀ k_, w9.heap.size ≤ k_ → (fun _ => True) k_ from fun k_ hk => trivial) _ (Nat.le_refl _)) (Below.refl _ _) (Nat.le_refl _) (by simp) ?_; (case hd => rfl); (case hg => rfl); (case hr => first | (go_simp; done) | (go_simp; rfl)); (case hp => exact (Reps.c9 (show Kd.FK k39 _ _ (⟨t304, t305, t306, t309, t310, t311, t312, t313, t314⟩ : S39) [.string t304, .bool t305, .slice Ao10 t306.length co10, .int .i64 t309, .int .i64 t310, .int .i64 t311, .string t312, .int .i64 t313, .int .i64 t314] from (k39_mkF _ _ (⟨t304, t305, t306, t309, t310, t311, t312, t313, t314⟩ : S39) (Kd.R_reads' (Kd.R_mono (ok' := (fun _ => True)) (HO308.out) (fun k_ hk => trivial))).2.1 (Kd.R_F (Kd.R_mono (ok' := (fun _ => True)) (HO308.out) (fun k_ hk => trivial))))) (Reps.none _ _))); intro v316 w11 ho12 hb hg_ hnew_; clear hg_ hnew_; (first | rw [← Ny315.out] at ho12 | (simp only [Int.reduceToNat] at ho12; rw [← Ny315.out] at ho12)); have n0_ := qas (Kd.N_lower ho12 (below_size (by repeat (first | (with_reducible first | exact HB.out | apply qbA | apply qbB | apply qbC) | exact HB.out)))); have n1_ := qas (below_step (by repeat (first | (with_reducible first | exact HB.out | apply qbA | apply qbB | apply qbC) | exact HB.out)) hb); clear HB; clear HO308; have HO317 := n0_; have HB := n1_; clear n0_ n1_; clear hb ho12; obtain ⟨Ao13, co13, eo13⟩ := Kd.N_slice HO317.out; subst eo13) | ((with_reducible refine gate_dst (N := 3) rfl ?_); (try (refine gate_guard (by rfl) ?_; dsimp only)); refine box_event ?hg (N := 3) ?hd (cs := #[.slice none 0 0]) (t := 24) ?hr ?_; (case hd => rfl); (case hg => rfl); (case hr => first | (go_simp; done) | (go_simp; rfl)); intro gb318 hg w14 hbox hb; have n0_ := qas (Kd.N_below (Kd.N_elderB (by (with_reducible repeat (first | apply Kd.N_alloc | apply Kd.N_drewN | apply Kd.N_drew)); exact HO317.out) gb318 (Nat.le_of_eq hg.symm)) hb); have n1_ := qas (below_step (by repeat (first | (with_reducible first | exact HB.out | apply qbA | apply qbB | apply qbC) | exact HB.out)) hb); have n2_ := qas (hbox); have n3_ := qas ((by rw [hg]; exact (below_size (by repeat (first | (with_reducible first | exact HB.out | apply qbA | apply qbB | apply qbC) | exact HB.out))) : w.heap.size ≤ gb318)); have n4_ := qas ((by rw [hg]; exact (below_size (by repeat (first | (with_reducible first | exact HB.out | apply qbA | apply qbB | apply qbC) | exact HB.out))) : w.heap.size ≤ gb318)); clear HO317; clear HB; have HO317 := n0_; have HB := n1_; have BK318 := n2_; have GW318 := n3_; have GE318 := n4_; clear n0_ n1_ n2_ n3_ n4_; clear hb hbox hg; have hcz15_0 : w14.cell? ⟨gb318, 0, none⟩ = some (.slice none 0 0) := (blk_cell BK318.out 0).trans rfl; have hfz15_0 := blk_frozen BK318.out 0) | ((with_reducible refine gate_callee (f := 17) rfl ?_); refine goesL_ (some 19) rfl rfl Tryd.func17 (by kernel_rfl) rfl #[.agg #[.slice Ao13 y315.length co13]] rfl (by (try simp only [List.map_toArray, List.map_cons, List.map_nil]); first | done | rfl | (simp only [List.length_drop, List.length_take]; rfl)) ?_; (with_reducible refine (zipput_Put.calls _ _ y315 t319 t320 _ ?side1 ?side2 A5.out).mono ?_); (case side1 => refine (Kd.N_reads' (e := 39) (base := w.heap.size) (ok := fun k_ => (True ∧ k_ ≠ gb318)) (n := y315.length) (c := co13) ?_).2.2; exact (by (with_reducible repeat (first | apply Kd.N_alloc | apply Kd.N_drewN | apply Kd.N_drew)); exact (Kd.N_mono (Kd.N_far (p := ⟨gb318, 0, none⟩) (Kd.N_mono HO317.out (fun k_ hk => (⟨hk, hk.2⟩ : _ ∧ k_ ≠ gb318))) (fun _ hk => hk.2) (.slice Ao13 y315.length co13)) (fun _ h_ => h_.1)))); (case side2 => exact (Kd.N_reads' HO317.out).2.1); rintro e w16 ⟨rfl, hb⟩; refine ⟨_, rfl, ?_⟩; have n0_ := qas (Kd.N_below (by (with_reducible repeat (first | apply Kd.N_alloc | apply Kd.N_drewN | apply Kd.N_drew)); exact (Kd.N_mono (Kd.N_far (p := ⟨gb318, 0, none⟩) (Kd.N_mono HO317.out (fun k_ hk => (⟨hk, hk.2⟩ : _ ∧ k_ ≠ gb318))) (fun _ hk => hk.2) (.slice Ao13 y315.length co13)) (fun _ h_ => h_.1))) hb); have n1_ := qas (blk_below (g := gb318) (o := .cells #[.slice Ao13 y315.length co13] 24 (0, 0)) (by (with_reducible repeat (first | refine qkA ?_ _ | refine qkB ?_ | refine qkC ?_ _)); refine blk_put (cs := #[.slice none 0 0]) ?_ 0 _ rfl; (with_reducible repeat (first | refine qkA ?_ _ | refine qkB ?_ | refine qkC ?_ _)); exact BK318.out) hb); have n2_ := qas (below_step (by repeat (first | (with_reducible first | exact HB.out | apply qbA | apply qbB | apply qbC | refine below_set ?_ GE318.out) | exact HB.out)) hb); clear HO317; clear BK318; clear HB; have HO317 := n0_; have BK318 := n1_; have HB := n2_; clear n0_ n1_ n2_; (try clear hb); (try clear hb2); (try clear hk); (try clear hi)) | ((with_reducible refine gate_callee (f := 17) rfl ?_); refine goesL_ (some 24) rfl rfl Tryd.func17 (by kernel_rfl) rfl #[.agg #[.slice none 0 0]] rfl (by (try simp only [List.map_toArray, List.map_cons, List.map_nil]); first | done | rfl | (simp only [List.length_drop, List.length_take]; rfl)) ?_; (refine (zipput_Put.calls _ _ ([] : List (S39)) t321 t322 _ ?side1 ?side2 A6.out).mono ?_); (case side1 => exact Kd.C_nil _ _); (case side2 => exact Nat.le_refl _); rintro e w17 ⟨rfl, hb⟩; refine ⟨_, rfl, ?_⟩; have n0_ := qas (Kd.N_below (by (with_reducible repeat (first | apply Kd.N_alloc | apply Kd.N_drewN | apply Kd.N_drew)); exact HO317.out) hb); have n1_ := qas (blk_below (g := gb318) (o := .cells #[.slice Ao13 y315.length co13] 24 (0, 0)) (by (with_reducible repeat (first | refine qkA ?_ _ | refine qkB ?_ | refine qkC ?_ _)); exact BK318.out) hb); have n2_ := qas (below_step (by repeat (first | (with_reducible first | exact HB.out | apply qbA | apply qbB | apply qbC | refine below_set ?_ GE318.out) | exact HB.out)) hb); clear HO317; clear BK318; clear HB; have HO317 := n0_; have BK318 := n1_; have HB := n2_; clear n0_ n1_ n2_; (try clear hb); (try clear hb2); (try clear hk); (try clear hi)))
 (try simp only [Act.put, qsA, qsB, qsC])
 go_cut [44] (fun v44 wc => ∃ (kq : Nat) (x44_6 : Bool), v44 = .bool x44_6 ∧ Aside0 (pn_UnzipForms.j0 kq a0 t319 t321 x44_6 = some r) ∧ Aside0 (kq ≤ k) ∧ Aside0 (Kd.N k39 39 wc w.heap.size (fun k_ => k_ ≠ gb318) (.slice Ao13 y315.length co13) y315) ∧ Aside0 (wc.heap[gb318]? = some (.cells #[(.slice Ao13 y315.length co13)] 24 (0, 0))) ∧ Aside0 (Below w.heap.size w wc))
 case first =>
  have H := HC7.out
  clear HC7
  replace H := Option.bind_eq_some_iff.mp H
  obtain ⟨t323, A180, H⟩ := H
  replace H : (if t323 = 0 then ((pl_Num.f t322).bind fun t324 => (if t324 = 0 then (if (t321.size : Int) = 22 then (pn_UnzipForms.j0 k a0 t319 t321 (decide ((t319.size : Int) < 100))) else (pn_UnzipForms.j0 k a0 t319 t321 true)) else (pn_UnzipForms.j0 k a0 t319 t321 true))) else (pn_UnzipForms.j0 k a0 t319 t321 true)) = some r := H
  have A18 := qas A180
  clear A180
  by_cases c19 : t323 = 0
  rotate_left
  ·rw [if_neg c19] at H
   have c19b0 : (t323 == 0) = false := beq_eq_false_iff_ne.mpr c19
   have c19b1 : (t323 != 0) = true := bne_iff_ne.mpr c19
   (first | rw [c19b0] | (simp only [i64_w, i32_w]; rw [c19b0]) | skip)
   have H' := qas H
   clear H
   go_wp2_with (first | ((with_reducible refine gate_callee (f := 19) rfl ?_); refine goesL_ (some 28) rfl rfl Tryd.func19 (by kernel_rfl) rfl #[.int .i64 t320] rfl (by (try simp only [List.map_toArray, List.map_cons, List.map_nil]); first | done | rfl | (simp only [List.length_drop, List.length_take]; rfl)) ?_; (with_reducible refine (pl_Num.calls t320 t323 _ A18.out).mono ?_); rintro e w' ⟨rfl, ⟨nd, rfl⟩⟩; refine ⟨_, rfl, ?_⟩))
   go_meet
   case rel => exact ⟨_, (true), (by first | rfl | (simp; done) | (simp [*]; done)), H', ⟨by first | omega | exact Nat.le_refl _⟩, ⟨by (with_reducible repeat (first | apply Kd.N_alloc | apply Kd.N_drewN | apply Kd.N_drew)); exact Kd.N_mono HO317.out (fun _ hk => hk.2)⟩, ⟨by (with_reducible repeat (first | refine qkA ?_ _ | refine qkB ?_ | refine qkC ?_ _)); exact BK318.out⟩, ⟨by repeat (first | (with_reducible first | exact HB.out | apply qbA | apply qbB | apply qbC | refine below_set ?_ GE318.out) | exact HB.out)⟩⟩
  rw [if_pos c19] at H
  have c19b0 : (t323 == 0) = true := beq_iff_eq.mpr c19
  have c19b1 : (t323 != 0) = false := bne_eq_false_iff_eq.mpr c19
  clear c19
  (first | rw [c19b0] | (simp only [i64_w, i32_w]; rw [c19b0]) | skip)
  replace H := Option.bind_eq_some_iff.mp H
  obtain ⟨t324, A200, H⟩ := H
  replace H : (if t324 = 0 then (if (t321.size : Int) = 22 then (pn_UnzipForms.j0 k a0 t319 t321 (decide ((t319.size : Int) < 100))) else (pn_UnzipForms.j0 k a0 t319 t321 true)) else (pn_UnzipForms.j0 k a0 t319 t321 true)) = some r := H
  have A20 := qas A200
  clear A200
  by_cases c21 : t324 = 0
  rotate_left
  ·rw [if_neg c21] at H
   have c21b0 : (t324 == 0) = false := beq_eq_false_iff_ne.mpr c21
   have c21b1 : (t324 != 0) = true := bne_iff_ne.mpr c21
   have H' := qas H
   clear H
   go_wp2_with (first | ((with_reducible refine gate_callee (f := 19) rfl ?_); refine goesL_ (some 28) rfl rfl Tryd.func19 (by kernel_rfl) rfl #[.int .i64 t320] rfl (by (try simp only [List.map_toArray, List.map_cons, List.map_nil]); first | done | rfl | (simp only [List.length_drop, List.length_take]; rfl)) ?_; (with_reducible refine (pl_Num.calls t320 t323 _ A18.out).mono ?_); rintro e w' ⟨rfl, ⟨nd, rfl⟩⟩; refine ⟨_, rfl, ?_⟩) | (go_at_call 19; (with_reducible refine (pl_Num.calls t322 t324 _ A20.out).mono ?_); rintro e w' ⟨rfl, ⟨nd, rfl⟩⟩))
   go_meet
   case rel => exact ⟨_, (true), (by first | rfl | (simp; done) | (simp [*]; done)), H', ⟨by first | omega | exact Nat.le_refl _⟩, ⟨by (with_reducible repeat (first | apply Kd.N_alloc | apply Kd.N_drewN | apply Kd.N_drew)); exact Kd.N_mono HO317.out (fun _ hk => hk.2)⟩, ⟨by (with_reducible repeat (first | refine qkA ?_ _ | refine qkB ?_ | refine qkC ?_ _)); exact BK318.out⟩, ⟨by repeat (first | (with_reducible first | exact HB.out | apply qbA | apply qbB | apply qbC | refine below_set ?_ GE318.out) | exact HB.out)⟩⟩
  rw [if_pos c21] at H
  have c21b0 : (t324 == 0) = true := beq_iff_eq.mpr c21
  have c21b1 : (t324 != 0) = false := bne_eq_false_iff_eq.mpr c21
  clear c21
  by_cases c22 : (t321.size : Int) = 22
  rotate_left
  ·rw [if_neg c22] at H
   have c22b0 : ((t321.size : Int) == 22) = false := beq_eq_false_iff_ne.mpr c22
   have c22b1 : ((t321.size : Int) != 22) = true := bne_iff_ne.mpr c22
   have H' := qas H
   clear H
   go_wp2_with (first | ((with_reducible refine gate_callee (f := 19) rfl ?_); refine goesL_ (some 28) rfl rfl Tryd.func19 (by kernel_rfl) rfl #[.int .i64 t320] rfl (by (try simp only [List.map_toArray, List.map_cons, List.map_nil]); first | done | rfl | (simp only [List.length_drop, List.length_take]; rfl)) ?_; (with_reducible refine (pl_Num.calls t320 t323 _ A18.out).mono ?_); rintro e w' ⟨rfl, ⟨nd, rfl⟩⟩; refine ⟨_, rfl, ?_⟩) | (go_at_call 19; (with_reducible refine (pl_Num.calls t322 t324 _ A20.out).mono ?_); rintro e w' ⟨rfl, ⟨nd, rfl⟩⟩))
   go_meet
   case rel => exact ⟨_, (true), (by first | rfl | (simp; done) | (simp [*]; done)), H', ⟨by first | omega | exact Nat.le_refl _⟩, ⟨by (with_reducible repeat (first | apply Kd.N_alloc | apply Kd.N_drewN | apply Kd.N_drew)); exact Kd.N_mono HO317.out (fun _ hk => hk.2)⟩, ⟨by (with_reducible repeat (first | refine qkA ?_ _ | refine qkB ?_ | refine qkC ?_ _)); exact BK318.out⟩, ⟨by repeat (first | (with_reducible first | exact HB.out | apply qbA | apply qbB | apply qbC | refine below_set ?_ GE318.out) | exact HB.out)⟩⟩
  rw [if_pos c22] at H
  have c22b0 : ((t321.size : Int) == 22) = true := beq_iff_eq.mpr c22
  have c22b1 : ((t321.size : Int) != 22) = false := bne_eq_false_iff_eq.mpr c22
  clear c22
  have H' := qas H
  clear H
  go_wp2_with (first | ((with_reducible refine gate_callee (f := 19) rfl ?_); refine goesL_ (some 28) rfl rfl Tryd.func19 (by kernel_rfl) rfl #[.int .i64 t320] rfl (by (try simp only [List.map_toArray, List.map_cons, List.map_nil]); first | done | rfl | (simp only [List.length_drop, List.length_take]; rfl)) ?_; (with_reducible refine (pl_Num.calls t320 t323 _ A18.out).mono ?_); rintro e w' ⟨rfl, ⟨nd, rfl⟩⟩; refine ⟨_, rfl, ?_⟩) | (go_at_call 19; (with_reducible refine (pl_Num.calls t322 t324 _ A20.out).mono ?_); rintro e w' ⟨rfl, ⟨nd, rfl⟩⟩))
  go_meet
  case rel => exact ⟨_, (decide ((t319.size : Int) < 100)), (by first | rfl | (simp; done) | (simp [*]; done)), H', ⟨by first | omega | exact Nat.le_refl _⟩, ⟨by (with_reducible repeat (first | apply Kd.N_alloc | apply Kd.N_drewN | apply Kd.N_drew)); exact Kd.N_mono HO317.out (fun _ hk => hk.2)⟩, ⟨by (with_reducible repeat (first | refine qkA ?_ _ | refine qkB ?_ | refine qkC ?_ _)); exact BK318.out⟩, ⟨by repeat (first | (with_reducible first | exact HB.out | apply qbA | apply qbB | apply qbC | refine below_set ?_ GE318.out) | exact HB.out)⟩⟩
 case rest =>
  clear HC7
  try clear c1
  try clear c2
  try clear p2
  try clear c3
  try clear c9
  try clear c11
  try clear c17
  try clear c19
  try clear c19b0
  try clear c19b1
  try clear c21
  try clear c21b0
  try clear c21b1
  try clear c22
  try clear c22b0
  try clear c22b1
  try clear hcz15_0
  try clear hfz15_0
  obtain ⟨kq, x44_6, rfl, HA, HJ6, HO_319000, BK318, HB⟩ := hcut
  cases kq with
  | zero => exact absurd HA.out (by simp [pn_UnzipForms.j0])
  | succ kj6 =>
   have H := HA.out
   clear HA
   simp only [pn_UnzipForms.j0] at H
   by_cases c23 : x44_6 = true
   ·subst c23
    have H1 : (none) = some r := by rw [if_pos rfl] at H; exact H
    clear H
    have H := H1
    clear H1
    exact absurd H (by simp)
   replace c23 := Bool.eq_false_iff.mpr c23
   subst c23
   have H1 : (if 0 ≤ 59 then (if 59 ≤ (t319.size : Int) then (if t321.size + t321.size ≤ 9223372036854775807 then (if t319.size + t321.size ≤ 9223372036854775807 then (if t321.size + t319.size ≤ 9223372036854775807 then (if (t319.extract 0 59).size + (t319.extract 0 59).size ≤ 9223372036854775807 then (if 0 ≤ ((t319.extract 0 59).size : Int) then (if ((t319.extract 0 59).size : Int) ≤ (t319.size : Int) then (if ((t319.extract 0 59) ++ (t319.extract 0 59)).size + (t319.extract (((t319.extract 0 59).size : Int) : Int).toNat t319.size).size ≤ 9223372036854775807 then (if (t319.extract 0 59).size + t321.size ≤ 9223372036854775807 then (if 0 ≤ (wrap64 ((t319.size : Int) - 1)) then (if (wrap64 ((t319.size : Int) - 1)) ≤ (t319.size : Int) then (if 1 + t319.size ≤ 9223372036854775807 then (if 0 ≤ (wrap64 ((t319.size : Int) - 22)) then (if (wrap64 ((t319.size : Int) - 22)) ≤ (t319.size : Int) then (if 0 ≤ 21 then (if 21 ≤ (t321.size : Int) then (if (t321.extract 0 21).size + 1 ≤ 9223372036854775807 then ((some (([(⟨#[]⟩ : ByteArray), (⟨#[80]⟩ : ByteArray), (⟨#[80, 75, 5, 6]⟩ : ByteArray), t321 ++ t321, t319 ++ t321, t321 ++ t319, t319.extract 0 59, ((t319.extract 0 59) ++ (t319.extract 0 59)) ++ (t319.extract (((t319.extract 0 59).size : Int) : Int).toNat t319.size), (t319.extract 0 59) ++ t321, t319.extract (((t319.extract 0 59).size : Int) : Int).toNat t319.size, t319.extract 0 ((wrap64 ((t319.size : Int) - 1)) : Int).toNat, (⟨#[0]⟩ : ByteArray) ++ t319, t319.extract 0 ((wrap64 ((t319.size : Int) - 22)) : Int).toNat, (t321.extract 0 21) ++ (⟨#[1]⟩ : ByteArray)] : List ByteArray) : List ByteArray)).bind fun y325 => (if 0 ≤ (wrap64 (Int.tmod (IntKind.u64.wrap (a0)) 14)) then (if (wrap64 (Int.tmod (IntKind.u64.wrap (a0)) 14)) < (y325.length : Int) then ((zipget_Get.f kj6 (rdOf ByteArray.empty y325 (wrap64 (Int.tmod (IntKind.u64.wrap (a0)) 14)))).bind fun bt329 => (if (bt329.1.length : Int) = 0 then ((pl_Num.f bt329.2).bind fun t334 => (some (t334 == 1400))) else (none))) else (none)) else (none))) else (none)) else (none)) else (none)) else (none)) else (none)) else (none)) else (none)) else (none)) else (none)) else (none)) else (none)) else (none)) else (none)) else (none)) else (none)) else (none)) else (none)) else (none)) = some r := by rw [if_neg (show ¬ (false = true) by decide)] at H; exact H
   clear H
   have H := H1
   clear H1
   by_cases c24 : 0 ≤ 59
   rotate_left
   ·rw [if_neg c24] at H
    exact absurd H (by simp)
   rw [if_pos c24] at H
   have c24b0 := eq_true c24
   have c24b1 : decide (0 ≤ 59) = true := decide_eq_true c24
   clear c24
   by_cases c25 : 59 ≤ (t319.size : Int)
   rotate_left
   ·rw [if_neg c25] at H
    exact absurd H (by simp)
   rw [if_pos c25] at H
   have c25b0 := eq_true c25
   have c25b1 : decide (59 ≤ (t319.size : Int)) = true := decide_eq_true c25
   clear c25
   by_cases c26 : t321.size + t321.size ≤ 9223372036854775807
   rotate_left
   ·rw [if_neg c26] at H
    exact absurd H (by simp)
   rw [if_pos c26] at H
   have c26b0 := eq_true c26
   have c26b1 : decide (t321.size + t321.size ≤ 9223372036854775807) = true := decide_eq_true c26
   try have c26b2 : (9223372036854775807 < t321.size + t321.size) = False := eq_false (Nat.not_lt.2 c26)
   by_cases c27 : t319.size + t321.size ≤ 9223372036854775807
   rotate_left
   ·rw [if_neg c27] at H
    exact absurd H (by simp)
   rw [if_pos c27] at H
   have c27b0 := eq_true c27
   have c27b1 : decide (t319.size + t321.size ≤ 9223372036854775807) = true := decide_eq_true c27
   try have c27b2 : (9223372036854775807 < t319.size + t321.size) = False := eq_false (Nat.not_lt.2 c27)
   by_cases c28 : t321.size + t319.size ≤ 9223372036854775807
   rotate_left
   ·rw [if_neg c28] at H
    exact absurd H (by simp)
   rw [if_pos c28] at H
   have c28b0 := eq_true c28
   have c28b1 : decide (t321.size + t319.size ≤ 9223372036854775807) = true := decide_eq_true c28
   try have c28b2 : (9223372036854775807 < t321.size + t319.size) = False := eq_false (Nat.not_lt.2 c28)
   by_cases c29 : (t319.extract 0 59).size + (t319.extract 0 59).size ≤ 9223372036854775807
   rotate_left
   ·rw [if_neg c29] at H
    exact absurd H (by simp)
   rw [if_pos c29] at H
   have c29b0 := eq_true c29
   have c29b1 : decide ((t319.extract 0 59).size + (t319.extract 0 59).size ≤ 9223372036854775807) = true := decide_eq_true c29
   try have c29b2 : (9223372036854775807 < (t319.extract 0 59).size + (t319.extract 0 59).size) = False := eq_false (Nat.not_lt.2 c29)
   have c29b9 : (9223372036854775807 < (t319.extract 0 59).size + (t319.extract 0 59).size) = False := eq_false (Nat.not_lt.2 c29)
   (first | (simp only [ByteArray.size_append, show (t319.extract 0 59).size = min 59 t319.size from by rw [ByteArray.size_extract]; omega] at c29b9) | (try simp only [ByteArray.size_append] at c29b9))
   by_cases c30 : 0 ≤ ((t319.extract 0 59).size : Int)
   rotate_left
   ·rw [if_neg c30] at H
    exact absurd H (by simp)
   rw [if_pos c30] at H
   have c30b0 := eq_true c30
   have c30b1 : decide (0 ≤ ((t319.extract 0 59).size : Int)) = true := decide_eq_true c30
   clear c30
   by_cases c31 : ((t319.extract 0 59).size : Int) ≤ (t319.size : Int)
   rotate_left
   ·rw [if_neg c31] at H
    exact absurd H (by simp)
   rw [if_pos c31] at H
   have c31b0 := eq_true c31
   have c31b1 : decide (((t319.extract 0 59).size : Int) ≤ (t319.size : Int)) = true := decide_eq_true c31
   have c31b10 : (min 59 t319.size ≤ t319.size) = True := eq_true (Nat.min_le_right _ _)
   clear c31
   by_cases c32 : ((t319.extract 0 59) ++ (t319.extract 0 59)).size + (t319.extract (((t319.extract 0 59).size : Int) : Int).toNat t319.size).size ≤ 9223372036854775807
   rotate_left
   ·rw [if_neg c32] at H
    exact absurd H (by simp)
   rw [if_pos c32] at H
   have c32b0 := eq_true c32
   have c32b1 : decide (((t319.extract 0 59) ++ (t319.extract 0 59)).size + (t319.extract (((t319.extract 0 59).size : Int) : Int).toNat t319.size).size ≤ 9223372036854775807) = true := decide_eq_true c32
   try have c32b2 : (9223372036854775807 < ((t319.extract 0 59) ++ (t319.extract 0 59)).size + (t319.extract (((t319.extract 0 59).size : Int) : Int).toNat t319.size).size) = False := eq_false (Nat.not_lt.2 c32)
   have c32b9 : (9223372036854775807 < ((t319.extract 0 59) ++ (t319.extract 0 59)).size + (t319.extract (((t319.extract 0 59).size : Int) : Int).toNat t319.size).size) = False := eq_false (Nat.not_lt.2 c32)
   have c32b10 : (9223372036854775807 < min 59 t319.size + min 59 t319.size + (t319.size - min 59 t319.size)) = False := eq_false (Nat.not_lt.2 (by have h_ := c32; simp only [ByteArray.size_append, ByteArray.size_extract, Int.toNat_natCast] at h_; omega))
   (first | (simp only [ByteArray.size_append, show (t319.extract 0 59).size = min 59 t319.size from by rw [ByteArray.size_extract]; omega] at c32b9) | (try simp only [ByteArray.size_append] at c32b9))
   by_cases c33 : (t319.extract 0 59).size + t321.size ≤ 9223372036854775807
   rotate_left
   ·rw [if_neg c33] at H
    exact absurd H (by simp)
   rw [if_pos c33] at H
   have c33b0 := eq_true c33
   have c33b1 : decide ((t319.extract 0 59).size + t321.size ≤ 9223372036854775807) = true := decide_eq_true c33
   try have c33b2 : (9223372036854775807 < (t319.extract 0 59).size + t321.size) = False := eq_false (Nat.not_lt.2 c33)
   have c33b9 : (9223372036854775807 < (t319.extract 0 59).size + t321.size) = False := eq_false (Nat.not_lt.2 c33)
   (first | (simp only [ByteArray.size_append, show (t319.extract 0 59).size = min 59 t319.size from by rw [ByteArray.size_extract]; omega] at c33b9) | (try simp only [ByteArray.size_append] at c33b9))
   have c34b0 := eq_true (qde (by first | (with_reducible assumption) | assumption) : 0 ≤ ((t319.extract 0 59).size : Int))
   have c35b0 := eq_true (qde (by first | (with_reducible assumption) | assumption) : ((t319.extract 0 59).size : Int) ≤ (t319.size : Int))
   obtain ⟨ji36, hji36⟩ : ∃ j_ : Int, (wrap64 ((t319.size : Int) - 1)) = j_ := ⟨_, rfl⟩
   replace H : (if 0 ≤ (ji36) then (if (ji36) ≤ (t319.size : Int) then (if 1 + t319.size ≤ 9223372036854775807 then (if 0 ≤ (wrap64 ((t319.size : Int) - 22)) then (if (wrap64 ((t319.size : Int) - 22)) ≤ (t319.size : Int) then (if 0 ≤ 21 then (if 21 ≤ (t321.size : Int) then (if (t321.extract 0 21).size + 1 ≤ 9223372036854775807 then ((some (([(⟨#[]⟩ : ByteArray), (⟨#[80]⟩ : ByteArray), (⟨#[80, 75, 5, 6]⟩ : ByteArray), t321 ++ t321, t319 ++ t321, t321 ++ t319, t319.extract 0 59, ((t319.extract 0 59) ++ (t319.extract 0 59)) ++ (t319.extract (((t319.extract 0 59).size : Int) : Int).toNat t319.size), (t319.extract 0 59) ++ t321, t319.extract (((t319.extract 0 59).size : Int) : Int).toNat t319.size, t319.extract 0 ((ji36) : Int).toNat, (⟨#[0]⟩ : ByteArray) ++ t319, t319.extract 0 ((wrap64 ((t319.size : Int) - 22)) : Int).toNat, (t321.extract 0 21) ++ (⟨#[1]⟩ : ByteArray)] : List ByteArray) : List ByteArray)).bind fun y325 => (if 0 ≤ (wrap64 (Int.tmod (IntKind.u64.wrap (a0)) 14)) then (if (wrap64 (Int.tmod (IntKind.u64.wrap (a0)) 14)) < (y325.length : Int) then ((zipget_Get.f kj6 (rdOf ByteArray.empty y325 (wrap64 (Int.tmod (IntKind.u64.wrap (a0)) 14)))).bind fun bt329 => (if (bt329.1.length : Int) = 0 then ((pl_Num.f bt329.2).bind fun t334 => (some (t334 == 1400))) else (none))) else (none)) else (none))) else (none)) else (none)) else (none)) else (none)) else (none)) else (none)) else (none)) else (none)) = some r := by first | (rw [hji36] at H; exact H) | (simp only [hji36] at H ⊢; exact H)
   have hji36w : (IntKind.i64.wrap ((t319.size : Int) - 1)) = ji36 := (i64_w _).trans hji36
   by_cases c37 : 0 ≤ (ji36)
   rotate_left
   ·rw [if_neg c37] at H
    exact absurd H (by simp)
   rw [if_pos c37] at H
   have c37b0 := eq_true c37
   have c37b1 : decide (0 ≤ (ji36)) = true := decide_eq_true c37
   clear c37
   by_cases c38 : (ji36) ≤ (t319.size : Int)
   rotate_left
   ·rw [if_neg c38] at H
    exact absurd H (by simp)
   rw [if_pos c38] at H
   have c38b0 := eq_true c38
   have c38b1 : decide ((ji36) ≤ (t319.size : Int)) = true := decide_eq_true c38
   clear c38
   by_cases c39 : 1 + t319.size ≤ 9223372036854775807
   rotate_left
   ·rw [if_neg c39] at H
    exact absurd H (by simp)
   rw [if_pos c39] at H
   have c39b0 := eq_true c39
   have c39b1 : decide (1 + t319.size ≤ 9223372036854775807) = true := decide_eq_true c39
   try have c39b2 : (9223372036854775807 < 1 + t319.size) = False := eq_false (Nat.not_lt.2 c39)
   obtain ⟨ji40, hji40⟩ : ∃ j_ : Int, (wrap64 ((t319.size : Int) - 22)) = j_ := ⟨_, rfl⟩
   replace H : (if 0 ≤ (ji40) then (if (ji40) ≤ (t319.size : Int) then (if 0 ≤ 21 then (if 21 ≤ (t321.size : Int) then (if (t321.extract 0 21).size + 1 ≤ 9223372036854775807 then ((some (([(⟨#[]⟩ : ByteArray), (⟨#[80]⟩ : ByteArray), (⟨#[80, 75, 5, 6]⟩ : ByteArray), t321 ++ t321, t319 ++ t321, t321 ++ t319, t319.extract 0 59, ((t319.extract 0 59) ++ (t319.extract 0 59)) ++ (t319.extract (((t319.extract 0 59).size : Int) : Int).toNat t319.size), (t319.extract 0 59) ++ t321, t319.extract (((t319.extract 0 59).size : Int) : Int).toNat t319.size, t319.extract 0 ((ji36) : Int).toNat, (⟨#[0]⟩ : ByteArray) ++ t319, t319.extract 0 ((ji40) : Int).toNat, (t321.extract 0 21) ++ (⟨#[1]⟩ : ByteArray)] : List ByteArray) : List ByteArray)).bind fun y325 => (if 0 ≤ (wrap64 (Int.tmod (IntKind.u64.wrap (a0)) 14)) then (if (wrap64 (Int.tmod (IntKind.u64.wrap (a0)) 14)) < (y325.length : Int) then ((zipget_Get.f kj6 (rdOf ByteArray.empty y325 (wrap64 (Int.tmod (IntKind.u64.wrap (a0)) 14)))).bind fun bt329 => (if (bt329.1.length : Int) = 0 then ((pl_Num.f bt329.2).bind fun t334 => (some (t334 == 1400))) else (none))) else (none)) else (none))) else (none)) else (none)) else (none)) else (none)) else (none)) = some r := by first | (rw [hji40] at H; exact H) | (simp only [hji40] at H ⊢; exact H)
   have hji40w : (IntKind.i64.wrap ((t319.size : Int) - 22)) = ji40 := (i64_w _).trans hji40
   by_cases c41 : 0 ≤ (ji40)
   rotate_left
   ·rw [if_neg c41] at H
    exact absurd H (by simp)
   rw [if_pos c41] at H
   have c41b0 := eq_true c41
   have c41b1 : decide (0 ≤ (ji40)) = true := decide_eq_true c41
   clear c41
   by_cases c42 : (ji40) ≤ (t319.size : Int)
   rotate_left
   ·rw [if_neg c42] at H
    exact absurd H (by simp)
   rw [if_pos c42] at H
   have c42b0 := eq_true c42
   have c42b1 : decide ((ji40) ≤ (t319.size : Int)) = true := decide_eq_true c42
   clear c42
   by_cases c43 : 0 ≤ 21
   rotate_left
   ·rw [if_neg c43] at H
    exact absurd H (by simp)
   rw [if_pos c43] at H
   have c43b0 := eq_true c43
   have c43b1 : decide (0 ≤ 21) = true := decide_eq_true c43
   clear c43
   by_cases c44 : 21 ≤ (t321.size : Int)
   rotate_left
   ·rw [if_neg c44] at H
    exact absurd H (by simp)
   rw [if_pos c44] at H
   have c44b0 := eq_true c44
   have c44b1 : decide (21 ≤ (t321.size : Int)) = true := decide_eq_true c44
   clear c44
   by_cases c45 : (t321.extract 0 21).size + 1 ≤ 9223372036854775807
   rotate_left
   ·rw [if_neg c45] at H
    exact absurd H (by simp)
   rw [if_pos c45] at H
   have c45b0 := eq_true c45
   have c45b1 : decide ((t321.extract 0 21).size + 1 ≤ 9223372036854775807) = true := decide_eq_true c45
   try have c45b2 : (9223372036854775807 < (t321.extract 0 21).size + 1) = False := eq_false (Nat.not_lt.2 c45)
   have c45b9 : (9223372036854775807 < (t321.extract 0 21).size + 1) = False := eq_false (Nat.not_lt.2 c45)
   (first | (simp only [ByteArray.size_append, show (t321.extract 0 21).size = min 21 t321.size from by rw [ByteArray.size_extract]; omega] at c45b9) | (try simp only [ByteArray.size_append] at c45b9))
   obtain ⟨y325, hy325⟩ : ∃ y_ : List ByteArray, y_ = (([(⟨#[]⟩ : ByteArray), (⟨#[80]⟩ : ByteArray), (⟨#[80, 75, 5, 6]⟩ : ByteArray), t321 ++ t321, t319 ++ t321, t321 ++ t319, t319.extract 0 59, ((t319.extract 0 59) ++ (t319.extract 0 59)) ++ (t319.extract (((t319.extract 0 59).size : Int) : Int).toNat t319.size), (t319.extract 0 59) ++ t321, t319.extract (((t319.extract 0 59).size : Int) : Int).toNat t319.size, t319.extract 0 ((ji36) : Int).toNat, (⟨#[0]⟩ : ByteArray) ++ t319, t319.extract 0 ((ji40) : Int).toNat, (t321.extract 0 21) ++ (⟨#[1]⟩ : ByteArray)] : List ByteArray)) := ⟨_, rfl⟩
   replace H : (if 0 ≤ (wrap64 (Int.tmod (IntKind.u64.wrap (a0)) 14)) then (if (wrap64 (Int.tmod (IntKind.u64.wrap (a0)) 14)) < (y325.length : Int) then ((zipget_Get.f kj6 (rdOf ByteArray.empty y325 (wrap64 (Int.tmod (IntKind.u64.wrap (a0)) 14)))).bind fun bt329 => (if (bt329.1.length : Int) = 0 then ((pl_Num.f bt329.2).bind fun t334 => (some (t334 == 1400))) else (none))) else (none)) else (none)) = some r := by first | (rw [hy325]; with_reducible exact H) | (have H2_ := (Option.bind_some _ _).symm.trans H; rw [hy325]; with_reducible exact H2_) | (have H2_ := (Option.bind_some _ _).symm.trans H; with_reducible exact H2_) | with_reducible exact H | (rw [hy325]; exact H) | exact H
   have Ny325 := qas hy325
   clear hy325
   obtain ⟨ji46, hji46⟩ : ∃ j_ : Int, (wrap64 (Int.tmod (IntKind.u64.wrap (a0)) 14)) = j_ := ⟨_, rfl⟩
   replace H : (if 0 ≤ (ji46) then (if (ji46) < (y325.length : Int) then ((zipget_Get.f kj6 (rdOf ByteArray.empty y325 (ji46))).bind fun bt329 => (if (bt329.1.length : Int) = 0 then ((pl_Num.f bt329.2).bind fun t334 => (some (t334 == 1400))) else (none))) else (none)) else (none)) = some r := by first | (rw [hji46] at H; exact H) | (simp only [hji46] at H ⊢; exact H)
   have hji46w : (IntKind.i64.wrap (Int.tmod (IntKind.u64.wrap (a0)) 14)) = ji46 := (i64_w _).trans hji46
   by_cases c47 : 0 ≤ (ji46)
   rotate_left
   ·rw [if_neg c47] at H
    exact absurd H (by simp)
   rw [if_pos c47] at H
   have c47b0 : decide (0 ≤ (ji46)) = true := decide_eq_true c47
   clear c47
   by_cases c48 : (ji46) < (y325.length : Int)
   rotate_left
   ·rw [if_neg c48] at H
    exact absurd H (by simp)
   rw [if_pos c48] at H
   have c48b0 : decide ((ji46) < (y325.length : Int)) = true := decide_eq_true c48
   clear c48
   replace H := Option.bind_eq_some_iff.mp H
   obtain ⟨⟨t329, t332⟩, A490, H⟩ := H
   replace H : (if (t329.length : Int) = 0 then ((pl_Num.f t332).bind fun t334 => (some (t334 == 1400))) else (none)) = some r := H
   have A49 := qas A490
   clear A490
   by_cases c50 : (t329.length : Int) = 0
   rotate_left
   ·rw [if_neg c50] at H
    exact absurd H (by simp)
   rw [if_pos c50] at H
   have c50b0 : ((t329.length : Int) == 0) = true := beq_iff_eq.mpr c50
   have c50b1 : ((t329.length : Int) != 0) = false := bne_eq_false_iff_eq.mpr c50
   clear c50
   replace H := Option.bind_eq_some_iff.mp H
   obtain ⟨t334, A510, H⟩ := H
   replace H : (some (t334 == 1400)) = some r := H
   have A51 := qas A510
   clear A510
   obtain rfl := Option.some.inj H
   try go_wp2
   have n0_ := qas (Kd.N_drew HO_319000.out)
   have n1_ := qas (qkB BK318.out)
   have n2_ := qas (qbC HB.out)
   clear HO_319000
   clear BK318
   clear HB
   have HO_319000 := n0_
   have BK318 := n1_
   have HB := n2_
   clear n0_ n1_ n2_
   refine start_ (n := 42) (S := fun w' => True) (ds := []) #[qf, qf, qf, qf, qf, qf, qf, qf, qf, qf, qf, qf, qf, qf, qf, qf, qf, qf, qf, qf, qf, qf, qf, qf, qf, qf, qf, qf, qf, qf, qf, qf, qf, qf, qf, qf, qf, qf, qf, qf, qf, qf] (by kernel_rfl) rfl rfl trivial (fun hHeld => ?_); refine with_tabW pn_UnzipForms.tab9 pn_UnzipForms.bits9 (fun HT_ HW_ => ?_)
   generalize wc.drew = w52 at HO_319000 BK318 HB hHeld ⊢
   refine pure_ (i := 0) (N := some 47) (v := ?_) (a' := ?_) #[qt, qf, qf, qf, qf, qf, qf, qf, qf, qf, qf, qf, qf, qf, qf, qf, qf, qf, qf, qf, qf, qf, qf, qf, qf, qf, qf, qf, qf, qf, qf, qf, qf, qf, qf, qf, qf, qf, qf, qf, qf, qf] rfl rfl (any_of HT_.out (by kernel_rfl)) (fun _ _ _ h => h) (Or.inl ⟨by rfl, ?_⟩) ?_ ?_
   rotate_left
   ·intro w'
    go_simp
    with_reducible rfl
   rotate_left
   ·simp only [Act.put, qsA, qsB, qsC, i64_w, i32_w, qsD, qsE]
    rfl
   refine pure_ (i := 1) (N := some 48) (v := ?_) (a' := ?_) #[qt, qt, qf, qf, qf, qf, qf, qf, qf, qf, qf, qf, qf, qf, qf, qf, qf, qf, qf, qf, qf, qf, qf, qf, qf, qf, qf, qf, qf, qf, qf, qf, qf, qf, qf, qf, qf, qf, qf, qf, qf, qf] rfl rfl (any_of HT_.out (by kernel_rfl)) (fun _ _ _ h => h) (Or.inl ⟨by rfl, ?_⟩) ?_ ?_
   rotate_left
   ·intro w'
    go_simp
    with_reducible rfl
   rotate_left
   ·simp only [Act.put, qsA, qsB, qsC, i64_w, i32_w, qsD, qsE]
    rfl
   refine pure_ (i := 2) (N := some 49) (v := ?_) (a' := ?_) #[qt, qt, qt, qf, qf, qf, qf, qf, qf, qf, qf, qf, qf, qf, qf, qf, qf, qf, qf, qf, qf, qf, qf, qf, qf, qf, qf, qf, qf, qf, qf, qf, qf, qf, qf, qf, qf, qf, qf, qf, qf, qf] rfl rfl (any_of HT_.out (by kernel_rfl)) (fun _ _ _ h => h) (Or.inl ⟨by rfl, ?_⟩) ?_ ?_
   rotate_left
   ·intro w'
    go_simp
    with_reducible rfl
   rotate_left
   ·simp only [Act.put, qsA, qsB, qsC, i64_w, i32_w, qsD, qsE]
    rfl
   refine pure_ (i := 3) (N := some 50) (v := ?_) (a' := ?_) #[qt, qt, qt, qt, qf, qf, qf, qf, qf, qf, qf, qf, qf, qf, qf, qf, qf, qf, qf, qf, qf, qf, qf, qf, qf, qf, qf, qf, qf, qf, qf, qf, qf, qf, qf, qf, qf, qf, qf, qf, qf, qf] rfl rfl (any_of HT_.out (by kernel_rfl)) (fun _ _ _ h => h) (Or.inl ⟨by rfl, ?_⟩) ?_ ?_
   rotate_left
   ·intro w'
    go_simp
    with_reducible rfl
   rotate_left
   ·simp only [Act.put, qsA, qsB, qsC, i64_w, i32_w, qsD, qsE]
    rfl
   refine pure_ (i := 4) (N := some 51) (v := ?_) (a' := ?_) #[qt, qt, qt, qt, qt, qf, qf, qf, qf, qf, qf, qf, qf, qf, qf, qf, qf, qf, qf, qf, qf, qf, qf, qf, qf, qf, qf, qf, qf, qf, qf, qf, qf, qf, qf, qf, qf, qf, qf, qf, qf, qf] rfl rfl (any_of HT_.out (by kernel_rfl)) (fun _ _ _ h => h) (Or.inl ⟨by rfl, ?_⟩) ?_ ?_
   rotate_left
   ·intro w'
    go_simp
    with_reducible rfl
   rotate_left
   ·simp only [Act.put, qsA, qsB, qsC, i64_w, i32_w, qsD, qsE]
    rfl
   refine pure_ (i := 5) (N := some 52) (v := ?_) (a' := ?_) #[qt, qt, qt, qt, qt, qt, qf, qf, qf, qf, qf, qf, qf, qf, qf, qf, qf, qf, qf, qf, qf, qf, qf, qf, qf, qf, qf, qf, qf, qf, qf, qf, qf, qf, qf, qf, qf, qf, qf, qf, qf, qf] rfl rfl (any_of HT_.out (by kernel_rfl)) (fun _ _ _ h => h) (Or.inl ⟨by rfl, ?_⟩) ?_ ?_
   rotate_left
   ·intro w'
    go_simp
    with_reducible rfl
   rotate_left
   ·simp only [Act.put, qsA, qsB, qsC, i64_w, i32_w, qsD, qsE]
    rfl
   refine pure_ (i := 6) (N := some 53) (v := ?_) (a' := ?_) #[qt, qt, qt, qt, qt, qt, qt, qf, qf, qf, qf, qf, qf, qf, qf, qf, qf, qf, qf, qf, qf, qf, qf, qf, qf, qf, qf, qf, qf, qf, qf, qf, qf, qf, qf, qf, qf, qf, qf, qf, qf, qf] rfl rfl (any_of HT_.out (by kernel_rfl)) (fun _ _ _ h => h) (Or.inl ⟨by rfl, ?_⟩) ?_ ?_
   rotate_left
   ·intro w'
    go_simp
    with_reducible rfl
   rotate_left
   ·simp only [Act.put, qsA, qsB, qsC, i64_w, i32_w, qsD, qsE]
    rfl
   refine pure_ (i := 7) (N := some 54) (v := ?_) (a' := ?_) #[qt, qt, qt, qt, qt, qt, qt, qt, qf, qf, qf, qf, qf, qf, qf, qf, qf, qf, qf, qf, qf, qf, qf, qf, qf, qf, qf, qf, qf, qf, qf, qf, qf, qf, qf, qf, qf, qf, qf, qf, qf, qf] rfl rfl (any_of HT_.out (by kernel_rfl)) (fun _ _ _ h => h) (Or.inl ⟨by rfl, ?_⟩) ?_ ?_
   rotate_left
   ·intro w'
    go_simp
    with_reducible rfl
   rotate_left
   ·simp only [Act.put, qsA, qsB, qsC, i64_w, i32_w, qsD, qsE]
    rfl
   refine pure_ (i := 8) (N := some 55) (v := ?_) (a' := ?_) #[qt, qt, qt, qt, qt, qt, qt, qt, qt, qf, qf, qf, qf, qf, qf, qf, qf, qf, qf, qf, qf, qf, qf, qf, qf, qf, qf, qf, qf, qf, qf, qf, qf, qf, qf, qf, qf, qf, qf, qf, qf, qf] rfl rfl (any_of HT_.out (by kernel_rfl)) (fun _ _ _ h => h) (Or.inl ⟨by rfl, ?_⟩) ?_ ?_
   rotate_left
   ·intro w'
    go_simp
    with_reducible rfl
   rotate_left
   ·simp only [Act.put, qsA, qsB, qsC, i64_w, i32_w, qsD, qsE]
    rfl
   refine pure_ (i := 9) (N := some 56) (v := ?_) (a' := ?_) #[qt, qt, qt, qt, qt, qt, qt, qt, qt, qt, qf, qf, qf, qf, qf, qf, qf, qf, qf, qf, qf, qf, qf, qf, qf, qf, qf, qf, qf, qf, qf, qf, qf, qf, qf, qf, qf, qf, qf, qf, qf, qf] rfl rfl (any_of HT_.out (by kernel_rfl)) (fun _ _ _ h => h) (Or.inl ⟨by rfl, ?_⟩) ?_ ?_
   rotate_left
   ·intro w'
    go_simp
    with_reducible rfl
   rotate_left
   ·simp only [Act.put, qsA, qsB, qsC, i64_w, i32_w, qsD, qsE]
    rfl
   refine pure_ (i := 10) (N := some 57) (v := ?_) (a' := ?_) #[qt, qt, qt, qt, qt, qt, qt, qt, qt, qt, qt, qf, qf, qf, qf, qf, qf, qf, qf, qf, qf, qf, qf, qf, qf, qf, qf, qf, qf, qf, qf, qf, qf, qf, qf, qf, qf, qf, qf, qf, qf, qf] rfl rfl (any_of HT_.out (by kernel_rfl)) (fun _ _ _ h => h) (Or.inl ⟨by rfl, ?_⟩) ?_ ?_
   rotate_left
   ·intro w'
    go_simp
    with_reducible rfl
   rotate_left
   ·simp only [Act.put, qsA, qsB, qsC, i64_w, i32_w, qsD, qsE]
    rfl
   refine pure_ (i := 11) (N := some 58) (v := ?_) (a' := ?_) #[qt, qt, qt, qt, qt, qt, qt, qt, qt, qt, qt, qt, qf, qf, qf, qf, qf, qf, qf, qf, qf, qf, qf, qf, qf, qf, qf, qf, qf, qf, qf, qf, qf, qf, qf, qf, qf, qf, qf, qf, qf, qf] rfl rfl (any_of HT_.out (by kernel_rfl)) (fun _ _ _ h => h) (Or.inl ⟨by rfl, ?_⟩) ?_ ?_
   rotate_left
   ·intro w'
    go_simp
    with_reducible rfl
   rotate_left
   ·simp only [Act.put, qsA, qsB, qsC, i64_w, i32_w, qsD, qsE]
    rfl
   refine pure_ (i := 12) (N := some 59) (v := ?_) (a' := ?_) #[qt, qt, qt, qt, qt, qt, qt, qt, qt, qt, qt, qt, qt, qf, qf, qf, qf, qf, qf, qf, qf, qf, qf, qf, qf, qf, qf, qf, qf, qf, qf, qf, qf, qf, qf, qf, qf, qf, qf, qf, qf, qf] rfl rfl (any_of HT_.out (by kernel_rfl)) (fun _ _ _ h => h) (Or.inl ⟨by rfl, ?_⟩) ?_ ?_
   rotate_left
   ·intro w'
    go_simp
    with_reducible rfl
   rotate_left
   ·simp only [Act.put, qsA, qsB, qsC, i64_w, i32_w, qsD, qsE]
    rfl
   refine pure_ (i := 13) (N := some 60) (v := ?_) (a' := ?_) #[qt, qt, qt, qt, qt, qt, qt, qt, qt, qt, qt, qt, qt, qt, qf, qf, qf, qf, qf, qf, qf, qf, qf, qf, qf, qf, qf, qf, qf, qf, qf, qf, qf, qf, qf, qf, qf, qf, qf, qf, qf, qf] rfl rfl (any_of HT_.out (by kernel_rfl)) (fun _ _ _ h => h) (Or.inl ⟨by rfl, ?_⟩) ?_ ?_
   rotate_left
   ·intro w'
    go_simp
    with_reducible rfl
   rotate_left
   ·simp only [Act.put, qsA, qsB, qsC, i64_w, i32_w, qsD, qsE]
    rfl
   refine pure_ (i := 14) (N := some 61) (v := ?_) (a' := ?_) #[qt, qt, qt, qt, qt, qt, qt, qt, qt, qt, qt, qt, qt, qt, qt, qf, qf, qf, qf, qf, qf, qf, qf, qf, qf, qf, qf, qf, qf, qf, qf, qf, qf, qf, qf, qf, qf, qf, qf, qf, qf, qf] rfl rfl (any_of HT_.out (by kernel_rfl)) (fun _ _ _ h => h) (Or.inl ⟨by rfl, ?_⟩) ?_ ?_
   rotate_left
   ·intro w'
    go_simp
    with_reducible rfl
   rotate_left
   ·simp only [Act.put, qsA, qsB, qsC, i64_w, i32_w, qsD, qsE]
    rfl
   refine pure_ (i := 15) (N := some 62) (v := ?_) (a' := ?_) #[qt, qt, qt, qt, qt, qt, qt, qt, qt, qt, qt, qt, qt, qt, qt, qt, qf, qf, qf, qf, qf, qf, qf, qf, qf, qf, qf, qf, qf, qf, qf, qf, qf, qf, qf, qf, qf, qf, qf, qf, qf, qf] rfl rfl (any_of HT_.out (by kernel_rfl)) (fun _ _ _ h => h) (Or.inl ⟨by rfl, ?_⟩) ?_ ?_
   rotate_left
   ·intro w'
    go_simp
    with_reducible rfl
   rotate_left
   ·simp only [Act.put, qsA, qsB, qsC, i64_w, i32_w, qsD, qsE]
    rfl
   refine pure_ (i := 16) (N := some 63) (v := ?_) (a' := ?_) #[qt, qt, qt, qt, qt, qt, qt, qt, qt, qt, qt, qt, qt, qt, qt, qt, qt, qf, qf, qf, qf, qf, qf, qf, qf, qf, qf, qf, qf, qf, qf, qf, qf, qf, qf, qf, qf, qf, qf, qf, qf, qf] rfl rfl (any_of HT_.out (by kernel_rfl)) (fun _ _ _ h => h) (Or.inl ⟨by rfl, ?_⟩) ?_ ?_
   rotate_left
   ·intro w'
    go_simp
    with_reducible rfl
   rotate_left
   ·simp only [Act.put, qsA, qsB, qsC, i64_w, i32_w, qsD, qsE]
    rfl
   refine pure_ (i := 17) (N := some 64) (v := ?_) (a' := ?_) #[qt, qt, qt, qt, qt, qt, qt, qt, qt, qt, qt, qt, qt, qt, qt, qt, qt, qt, qf, qf, qf, qf, qf, qf, qf, qf, qf, qf, qf, qf, qf, qf, qf, qf, qf, qf, qf, qf, qf, qf, qf, qf] rfl rfl (any_of HT_.out (by kernel_rfl)) (fun _ _ _ h => h) (Or.inl ⟨by rfl, ?_⟩) ?_ ?_
   rotate_left
   ·intro w'
    go_simp
    with_reducible rfl
   rotate_left
   ·simp only [Act.put, qsA, qsB, qsC, i64_w, i32_w, qsD, qsE]
    rfl
   refine pure_ (i := 18) (N := some 65) (v := ?_) (a' := ?_) #[qt, qt, qt, qt, qt, qt, qt, qt, qt, qt, qt, qt, qt, qt, qt, qt, qt, qt, qt, qf, qf, qf, qf, qf, qf, qf, qf, qf, qf, qf, qf, qf, qf, qf, qf, qf, qf, qf, qf, qf, qf, qf] rfl rfl (any_of HT_.out (by kernel_rfl)) (fun _ _ _ h => h) (Or.inl ⟨by rfl, ?_⟩) ?_ ?_
   rotate_left
   ·intro w'
    go_simp
    with_reducible rfl
   rotate_left
   ·simp only [Act.put, qsA, qsB, qsC, i64_w, i32_w, qsD, qsE]
    rfl
   refine pure_ (i := 19) (N := some 66) (v := ?_) (a' := ?_) #[qt, qt, qt, qt, qt, qt, qt, qt, qt, qt, qt, qt, qt, qt, qt, qt, qt, qt, qt, qt, qf, qf, qf, qf, qf, qf, qf, qf, qf, qf, qf, qf, qf, qf, qf, qf, qf, qf, qf, qf, qf, qf] rfl rfl (any_of HT_.out (by kernel_rfl)) (fun _ _ _ h => h) (Or.inl ⟨by rfl, ?_⟩) ?_ ?_
   rotate_left
   ·intro w'
    go_simp
    with_reducible rfl
   rotate_left
   ·simp only [Act.put, qsA, qsB, qsC, i64_w, i32_w, qsD, qsE]
    rfl
   refine pure_ (i := 20) (N := some 67) (v := ?_) (a' := ?_) #[qt, qt, qt, qt, qt, qt, qt, qt, qt, qt, qt, qt, qt, qt, qt, qt, qt, qt, qt, qt, qt, qf, qf, qf, qf, qf, qf, qf, qf, qf, qf, qf, qf, qf, qf, qf, qf, qf, qf, qf, qf, qf] rfl rfl (any_of HT_.out (by kernel_rfl)) (fun _ _ _ h => h) (Or.inl ⟨by rfl, ?_⟩) ?_ ?_
   rotate_left
   ·intro w'
    go_simp
    with_reducible rfl
   rotate_left
   ·simp only [Act.put, qsA, qsB, qsC, i64_w, i32_w, qsD, qsE]
    rfl
   refine pure_ (i := 21) (N := some 68) (v := ?_) (a' := ?_) #[qt, qt, qt, qt, qt, qt, qt, qt, qt, qt, qt, qt, qt, qt, qt, qt, qt, qt, qt, qt, qt, qt, qf, qf, qf, qf, qf, qf, qf, qf, qf, qf, qf, qf, qf, qf, qf, qf, qf, qf, qf, qf] rfl rfl (any_of HT_.out (by kernel_rfl)) (fun _ _ _ h => h) (Or.inl ⟨by rfl, ?_⟩) ?_ ?_
   rotate_left
   ·intro w'
    go_simp
    with_reducible rfl
   rotate_left
   ·simp only [Act.put, qsA, qsB, qsC, i64_w, i32_w, qsD, qsE]
    rfl
   refine pure_ (i := 22) (N := some 69) (v := ?_) (a' := ?_) #[qt, qt, qt, qt, qt, qt, qt, qt, qt, qt, qt, qt, qt, qt, qt, qt, qt, qt, qt, qt, qt, qt, qt, qf, qf, qf, qf, qf, qf, qf, qf, qf, qf, qf, qf, qf, qf, qf, qf, qf, qf, qf] rfl rfl (any_of HT_.out (by kernel_rfl)) (fun _ _ _ h => h) (Or.inl ⟨by rfl, ?_⟩) ?_ ?_
   rotate_left
   ·intro w'
    go_simp
    with_reducible rfl
   rotate_left
   ·simp only [Act.put, qsA, qsB, qsC, i64_w, i32_w, qsD, qsE]
    rfl
   refine pure_ (i := 23) (N := some 70) (v := ?_) (a' := ?_) #[qt, qt, qt, qt, qt, qt, qt, qt, qt, qt, qt, qt, qt, qt, qt, qt, qt, qt, qt, qt, qt, qt, qt, qt, qf, qf, qf, qf, qf, qf, qf, qf, qf, qf, qf, qf, qf, qf, qf, qf, qf, qf] rfl rfl (any_of HT_.out (by kernel_rfl)) (fun _ _ _ h => h) (Or.inl ⟨by rfl, ?_⟩) ?_ ?_
   rotate_left
   ·intro w'
    go_simp
    with_reducible rfl
   rotate_left
   ·simp only [Act.put, qsA, qsB, qsC, i64_w, i32_w, qsD, qsE]
    rfl
   refine pure_ (i := 24) (N := some 71) (v := ?_) (a' := ?_) #[qt, qt, qt, qt, qt, qt, qt, qt, qt, qt, qt, qt, qt, qt, qt, qt, qt, qt, qt, qt, qt, qt, qt, qt, qt, qf, qf, qf, qf, qf, qf, qf, qf, qf, qf, qf, qf, qf, qf, qf, qf, qf] rfl rfl (any_of HT_.out (by kernel_rfl)) (fun _ _ _ h => h) (Or.inl ⟨by rfl, ?_⟩) ?_ ?_
   rotate_left
   ·intro w'
    go_simp
    with_reducible rfl
   rotate_left
   ·simp only [Act.put, qsA, qsB, qsC, i64_w, i32_w, qsD, qsE]
    rfl
   refine pure_ (i := 25) (N := some 72) (v := ?_) (a' := ?_) #[qt, qt, qt, qt, qt, qt, qt, qt, qt, qt, qt, qt, qt, qt, qt, qt, qt, qt, qt, qt, qt, qt, qt, qt, qt, qt, qf, qf, qf, qf, qf, qf, qf, qf, qf, qf, qf, qf, qf, qf, qf, qf] rfl rfl (any_of HT_.out (by kernel_rfl)) (fun _ _ _ h => h) (Or.inl ⟨by rfl, ?_⟩) ?_ ?_
   rotate_left
   ·intro w'
    go_simp
    with_reducible rfl
   rotate_left
   ·simp only [Act.put, qsA, qsB, qsC, i64_w, i32_w, qsD, qsE]
    rfl
   refine pure_ (i := 26) (N := some 73) (v := ?_) (a' := ?_) #[qt, qt, qt, qt, qt, qt, qt, qt, qt, qt, qt, qt, qt, qt, qt, qt, qt, qt, qt, qt, qt, qt, qt, qt, qt, qt, qt, qf, qf, qf, qf, qf, qf, qf, qf, qf, qf, qf, qf, qf, qf, qf] rfl rfl (any_of HT_.out (by kernel_rfl)) (fun _ _ _ h => h) (Or.inl ⟨by rfl, ?_⟩) ?_ ?_
   rotate_left
   ·intro w'
    go_simp
    with_reducible rfl
   rotate_left
   ·simp only [Act.put, qsA, qsB, qsC, i64_w, i32_w, qsD, qsE]
    rfl
   refine pure_ (i := 27) (N := some 74) (v := ?_) (a' := ?_) #[qt, qt, qt, qt, qt, qt, qt, qt, qt, qt, qt, qt, qt, qt, qt, qt, qt, qt, qt, qt, qt, qt, qt, qt, qt, qt, qt, qt, qf, qf, qf, qf, qf, qf, qf, qf, qf, qf, qf, qf, qf, qf] rfl rfl (any_of HT_.out (by kernel_rfl)) (fun _ _ _ h => h) (Or.inl ⟨by rfl, ?_⟩) ?_ ?_
   rotate_left
   ·intro w'
    go_simp
    with_reducible rfl
   rotate_left
   ·simp only [Act.put, qsA, qsB, qsC, i64_w, i32_w, qsD, qsE]
    rfl
   refine pure_ (i := 28) (N := some 75) (v := ?_) (a' := ?_) #[qt, qt, qt, qt, qt, qt, qt, qt, qt, qt, qt, qt, qt, qt, qt, qt, qt, qt, qt, qt, qt, qt, qt, qt, qt, qt, qt, qt, qt, qf, qf, qf, qf, qf, qf, qf, qf, qf, qf, qf, qf, qf] rfl rfl (any_of HT_.out (by kernel_rfl)) (fun _ _ _ h => h) (Or.inl ⟨by rfl, ?_⟩) ?_ ?_
   rotate_left
   ·intro w'
    go_simp
    with_reducible rfl
   rotate_left
   ·simp only [Act.put, qsA, qsB, qsC, i64_w, i32_w, qsD, qsE]
    rfl
   refine pure_ (i := 29) (N := some 76) (v := ?_) (a' := ?_) #[qt, qt, qt, qt, qt, qt, qt, qt, qt, qt, qt, qt, qt, qt, qt, qt, qt, qt, qt, qt, qt, qt, qt, qt, qt, qt, qt, qt, qt, qt, qf, qf, qf, qf, qf, qf, qf, qf, qf, qf, qf, qf] rfl rfl (any_of HT_.out (by kernel_rfl)) (fun _ _ _ h => h) (Or.inl ⟨by rfl, ?_⟩) ?_ ?_
   rotate_left
   ·intro w'
    go_simp
    with_reducible rfl
   rotate_left
   ·simp only [Act.put, qsA, qsB, qsC, i64_w, i32_w, qsD, qsE]
    rfl
   refine pure_ (i := 30) (N := some 77) (v := ?_) (a' := ?_) #[qt, qt, qt, qt, qt, qt, qt, qt, qt, qt, qt, qt, qt, qt, qt, qt, qt, qt, qt, qt, qt, qt, qt, qt, qt, qt, qt, qt, qt, qt, qt, qf, qf, qf, qf, qf, qf, qf, qf, qf, qf, qf] rfl rfl (any_of HT_.out (by kernel_rfl)) (fun _ _ _ h => h) (Or.inl ⟨by rfl, ?_⟩) ?_ ?_
   rotate_left
   ·intro w'
    go_simp
    with_reducible rfl
   rotate_left
   ·simp only [Act.put, qsA, qsB, qsC, i64_w, i32_w, qsD, qsE]
    rfl
   refine pure_ (i := 31) (N := some 78) (v := ?_) (a' := ?_) #[qt, qt, qt, qt, qt, qt, qt, qt, qt, qt, qt, qt, qt, qt, qt, qt, qt, qt, qt, qt, qt, qt, qt, qt, qt, qt, qt, qt, qt, qt, qt, qt, qf, qf, qf, qf, qf, qf, qf, qf, qf, qf] rfl rfl (any_of HT_.out (by kernel_rfl)) (fun _ _ _ h => h) (Or.inl ⟨by rfl, ?_⟩) ?_ ?_
   rotate_left
   ·intro w'
    go_simp
    with_reducible rfl
   rotate_left
   ·simp only [Act.put, qsA, qsB, qsC, i64_w, i32_w, qsD, qsE]
    rfl
   refine pure_ (i := 32) (N := some 79) (v := ?_) (a' := ?_) #[qt, qt, qt, qt, qt, qt, qt, qt, qt, qt, qt, qt, qt, qt, qt, qt, qt, qt, qt, qt, qt, qt, qt, qt, qt, qt, qt, qt, qt, qt, qt, qt, qt, qf, qf, qf, qf, qf, qf, qf, qf, qf] rfl rfl (any_of HT_.out (by kernel_rfl)) (fun _ _ _ h => h) (Or.inl ⟨by rfl, ?_⟩) ?_ ?_
   rotate_left
   ·intro w'
    go_simp
    with_reducible rfl
   rotate_left
   ·simp only [Act.put, qsA, qsB, qsC, i64_w, i32_w, qsD, qsE]
    rfl
   refine pure_ (i := 33) (N := some 80) (v := ?_) (a' := ?_) #[qt, qt, qt, qt, qt, qt, qt, qt, qt, qt, qt, qt, qt, qt, qt, qt, qt, qt, qt, qt, qt, qt, qt, qt, qt, qt, qt, qt, qt, qt, qt, qt, qt, qt, qf, qf, qf, qf, qf, qf, qf, qf] rfl rfl (any_of HT_.out (by kernel_rfl)) (fun _ _ _ h => h) (Or.inl ⟨by rfl, ?_⟩) ?_ ?_
   rotate_left
   ·intro w'
    go_simp
    with_reducible rfl
   rotate_left
   ·simp only [Act.put, qsA, qsB, qsC, i64_w, i32_w, qsD, qsE]
    rfl
   refine pure_ (i := 34) (N := some 81) (v := ?_) (a' := ?_) #[qt, qt, qt, qt, qt, qt, qt, qt, qt, qt, qt, qt, qt, qt, qt, qt, qt, qt, qt, qt, qt, qt, qt, qt, qt, qt, qt, qt, qt, qt, qt, qt, qt, qt, qt, qf, qf, qf, qf, qf, qf, qf] rfl rfl (any_of HT_.out (by kernel_rfl)) (fun _ _ _ h => h) (Or.inl ⟨by rfl, ?_⟩) ?_ ?_
   rotate_left
   ·intro w'
    go_simp
    with_reducible rfl
   rotate_left
   ·simp only [Act.put, qsA, qsB, qsC, i64_w, i32_w, qsD, qsE]
    rfl
   refine pure_ (i := 35) (N := some 82) (v := ?_) (a' := ?_) #[qt, qt, qt, qt, qt, qt, qt, qt, qt, qt, qt, qt, qt, qt, qt, qt, qt, qt, qt, qt, qt, qt, qt, qt, qt, qt, qt, qt, qt, qt, qt, qt, qt, qt, qt, qt, qf, qf, qf, qf, qf, qf] rfl rfl (any_of HT_.out (by kernel_rfl)) (fun _ _ _ h => h) (Or.inl ⟨by rfl, ?_⟩) ?_ ?_
   rotate_left
   ·intro w'
    go_simp
    with_reducible rfl
   rotate_left
   ·simp only [Act.put, qsA, qsB, qsC, i64_w, i32_w, qsD, qsE]
    rfl
   refine pure_ (i := 36) (N := some 83) (v := ?_) (a' := ?_) #[qt, qt, qt, qt, qt, qt, qt, qt, qt, qt, qt, qt, qt, qt, qt, qt, qt, qt, qt, qt, qt, qt, qt, qt, qt, qt, qt, qt, qt, qt, qt, qt, qt, qt, qt, qt, qt, qf, qf, qf, qf, qf] rfl rfl (any_of HT_.out (by kernel_rfl)) (fun _ _ _ h => h) (Or.inl ⟨by rfl, ?_⟩) ?_ ?_
   rotate_left
   ·intro w'
    go_simp
    with_reducible rfl
   rotate_left
   ·simp only [Act.put, qsA, qsB, qsC, i64_w, i32_w, qsD, qsE]
    rfl
   refine pure_ (i := 37) (N := some 84) (v := ?_) (a' := ?_) #[qt, qt, qt, qt, qt, qt, qt, qt, qt, qt, qt, qt, qt, qt, qt, qt, qt, qt, qt, qt, qt, qt, qt, qt, qt, qt, qt, qt, qt, qt, qt, qt, qt, qt, qt, qt, qt, qt, qf, qf, qf, qf] rfl rfl (any_of HT_.out (by kernel_rfl)) (fun _ _ _ h => h) (Or.inl ⟨by rfl, ?_⟩) ?_ ?_
   rotate_left
   ·intro w'
    go_simp
    with_reducible rfl
   rotate_left
   ·simp only [Act.put, qsA, qsB, qsC, i64_w, i32_w, qsD, qsE]
    rfl
   refine pure_ (i := 38) (N := some 85) (v := ?_) (a' := ?_) #[qt, qt, qt, qt, qt, qt, qt, qt, qt, qt, qt, qt, qt, qt, qt, qt, qt, qt, qt, qt, qt, qt, qt, qt, qt, qt, qt, qt, qt, qt, qt, qt, qt, qt, qt, qt, qt, qt, qt, qf, qf, qf] rfl rfl (any_of HT_.out (by kernel_rfl)) (fun _ _ _ h => h) (Or.inl ⟨by rfl, ?_⟩) ?_ ?_
   rotate_left
   ·intro w'
    go_simp
    with_reducible rfl
   rotate_left
   ·simp only [Act.put, qsA, qsB, qsC, i64_w, i32_w, qsD, qsE]
    rfl
   refine pure_ (i := 39) (N := some 86) (v := ?_) (a' := ?_) #[qt, qt, qt, qt, qt, qt, qt, qt, qt, qt, qt, qt, qt, qt, qt, qt, qt, qt, qt, qt, qt, qt, qt, qt, qt, qt, qt, qt, qt, qt, qt, qt, qt, qt, qt, qt, qt, qt, qt, qt, qf, qf] rfl rfl (any_of HT_.out (by kernel_rfl)) (fun _ _ _ h => h) (Or.inl ⟨by rfl, ?_⟩) ?_ ?_
   rotate_left
   ·intro w'
    go_simp
    with_reducible rfl
   rotate_left
   ·simp only [Act.put, qsA, qsB, qsC, i64_w, i32_w, qsD, qsE]
    rfl
   refine one_ (i := 40) (N := some 87) #[qt, qt, qt, qt, qt, qt, qt, qt, qt, qt, qt, qt, qt, qt, qt, qt, qt, qt, qt, qt, qt, qt, qt, qt, qt, qt, qt, qt, qt, qt, qt, qt, qt, qt, qt, qt, qt, qt, qt, qt, qt, qf] rfl rfl (one_of HT_.out (by kernel_rfl)) (by decide) (fun K hK => ?_)
   refine Kd.R_lit_step Kd.string _ 9 ?hg (N := 87) ?hd (xs := ([(⟨#[]⟩ : ByteArray), (⟨#[80]⟩ : ByteArray), (⟨#[80, 75, 5, 6]⟩ : ByteArray), t321 ++ t321, t319 ++ t321, t321 ++ t319, t319.extract 0 59, ((t319.extract 0 59) ++ (t319.extract 0 59)) ++ (t319.extract (((t319.extract 0 59).size : Int) : Int).toNat t319.size), (t319.extract 0 59) ++ t321, t319.extract (((t319.extract 0 59).size : Int) : Int).toNat t319.size, t319.extract 0 ((ji36) : Int).toNat, (⟨#[0]⟩ : ByteArray) ++ t319, t319.extract 0 ((ji40) : Int).toNat, (t321.extract 0 21) ++ (⟨#[1]⟩ : ByteArray)] : List ByteArray)) (inner := [.string (⟨#[]⟩ : ByteArray), .string (⟨#[80]⟩ : ByteArray), .string (⟨#[80, 75, 5, 6]⟩ : ByteArray), .string (t321 ++ t321), .string (t319 ++ t321), .string (t321 ++ t319), .string (t319.extract 0 59), .string (((t319.extract 0 59) ++ (t319.extract 0 59)) ++ (t319.extract (((t319.extract 0 59).size : Int) : Int).toNat t319.size)), .string ((t319.extract 0 59) ++ t321), .string (t319.extract (((t319.extract 0 59).size : Int) : Int).toNat t319.size), .string (t319.extract 0 ((ji36) : Int).toNat), .string ((⟨#[0]⟩ : ByteArray) ++ t319), .string (t319.extract 0 ((ji40) : Int).toNat), .string ((t321.extract 0 21) ++ (⟨#[1]⟩ : ByteArray))]) (ok := fun _ => True) (okp := fun _ => True) ?hr ?hp (fun _ hk => hk) trivial (Below.refl _ _) (Nat.le_refl _) (by simp) ?_; (case hd => rfl); (case hg => rfl); (case hr => first | (go_simp; done) | (go_simp; rfl)); (case hp => exact (Reps.one (show Kd.M Kd.string _ _ _ (⟨#[]⟩ : ByteArray) [.string (⟨#[]⟩ : ByteArray)] from rfl) (Reps.one (show Kd.M Kd.string _ _ _ (⟨#[80]⟩ : ByteArray) [.string (⟨#[80]⟩ : ByteArray)] from rfl) (Reps.one (show Kd.M Kd.string _ _ _ (⟨#[80, 75, 5, 6]⟩ : ByteArray) [.string (⟨#[80, 75, 5, 6]⟩ : ByteArray)] from rfl) (Reps.one (show Kd.M Kd.string _ _ _ (t321 ++ t321) [.string (t321 ++ t321)] from rfl) (Reps.one (show Kd.M Kd.string _ _ _ (t319 ++ t321) [.string (t319 ++ t321)] from rfl) (Reps.one (show Kd.M Kd.string _ _ _ (t321 ++ t319) [.string (t321 ++ t319)] from rfl) (Reps.one (show Kd.M Kd.string _ _ _ (t319.extract 0 59) [.string (t319.extract 0 59)] from rfl) (Reps.one (show Kd.M Kd.string _ _ _ (((t319.extract 0 59) ++ (t319.extract 0 59)) ++ (t319.extract (((t319.extract 0 59).size : Int) : Int).toNat t319.size)) [.string (((t319.extract 0 59) ++ (t319.extract 0 59)) ++ (t319.extract (((t319.extract 0 59).size : Int) : Int).toNat t319.size))] from rfl) (Reps.one (show Kd.M Kd.string _ _ _ ((t319.extract 0 59) ++ t321) [.string ((t319.extract 0 59) ++ t321)] from rfl) (Reps.one (show Kd.M Kd.string _ _ _ (t319.extract (((t319.extract 0 59).size : Int) : Int).toNat t319.size) [.string (t319.extract (((t319.extract 0 59).size : Int) : Int).toNat t319.size)] from rfl) (Reps.one (show Kd.M Kd.string _ _ _ (t319.extract 0 ((ji36) : Int).toNat) [.string (t319.extract 0 ((ji36) : Int).toNat)] from rfl) (Reps.one (show Kd.M Kd.string _ _ _ ((⟨#[0]⟩ : ByteArray) ++ t319) [.string ((⟨#[0]⟩ : ByteArray) ++ t319)] from rfl) (Reps.one (show Kd.M Kd.string _ _ _ (t319.extract 0 ((ji40) : Int).toNat) [.string (t319.extract 0 ((ji40) : Int).toNat)] from rfl) (Reps.one (show Kd.M Kd.string _ _ _ ((t321.extract 0 21) ++ (⟨#[1]⟩ : ByteArray)) [.string ((t321.extract 0 21) ++ (⟨#[1]⟩ : ByteArray))] from rfl) (Reps.none _ _))))))))))))))))
   intro v326 w53 ho54 hb hg_ hnew_
   clear hg_ hnew_
   (first | rw [← Ny325.out] at ho54 | (simp only [Int.reduceToNat] at ho54; rw [← Ny325.out] at ho54))
   have n0_ := qas (Kd.N_elder' (by (with_reducible repeat (first | apply Kd.N_alloc | apply Kd.N_drewN | apply Kd.N_drew)); exact HO_319000.out) (Kd.R_base ho54) hb)
   have n1_ := qas (Kd.R_lower ho54 (below_size (by repeat (first | (with_reducible first | exact HB.out | apply qbA | apply qbB | apply qbC | refine below_set ?_ GE318.out) | exact HB.out))))
   have n2_ := qas (blk_below (g := gb318) (o := .cells #[.slice Ao13 y315.length co13] 24 (0, 0)) (by (with_reducible repeat (first | refine qkA ?_ _ | refine qkB ?_ | refine qkC ?_ _)); exact BK318.out) hb)
   have n3_ := qas (below_step (by repeat (first | (with_reducible first | exact HB.out | apply qbA | apply qbB | apply qbC | refine below_set ?_ GE318.out) | exact HB.out)) hb)
   clear HO_319000
   clear BK318
   clear HB
   have HO_319000 := n0_
   have HO327 := n1_
   have BK318 := n2_
   have HB := n3_
   clear n0_ n1_ n2_ n3_
   clear hb ho54
   refine hK.out _ _ trivial (fun hHeld => ?_)
   clear hK K
   refine norm_ (a' := ?_) ?_ ?_
   rotate_left
   ·show Act.put _ (some 87) _ = _
    simp only [Act.put, qsA, qsB, qsC, i64_w, i32_w, qsD, qsE]
    rfl
   refine pure_ (i := 41) (N := some 9) (v := ?_) (a' := ?_) #[qt, qt, qt, qt, qt, qt, qt, qt, qt, qt, qt, qt, qt, qt, qt, qt, qt, qt, qt, qt, qt, qt, qt, qt, qt, qt, qt, qt, qt, qt, qt, qt, qt, qt, qt, qt, qt, qt, qt, qt, qt, qt] rfl rfl (any_of HT_.out (by kernel_rfl)) (fun _ _ _ h => h) (Or.inl ⟨by rfl, ?_⟩) ?_ ?_
   rotate_left
   ·intro w'
    go_simp
    with_reducible rfl
   rotate_left
   ·simp only [Act.put, qsA, qsB, qsC, i64_w, i32_w, qsD, qsE]
    rfl
   refine done_ (done_of HT_.out (by kernel_rfl)) ?_
   obtain ⟨Ao55, co55, eo55⟩ := Kd.R_slice HO327.out
   subst eo55
   have p328 : 0 ≤ ((ji46) : Int) := qde (by first | (with_reducible assumption) | assumption)
   have q328 : (ji46) < (y325.length : Int) := qde (by first | (with_reducible assumption) | assumption)
   obtain ⟨ad328, e328, hx328_0⟩ := Kd.at_string (Kd.R_reads' HO327.out).2.2 (ji46) p328 q328
   cases e328
   replace p328 := eq_true p328
   replace q328 := eq_true q328
   try go_wp2_with (first | ((with_reducible refine gate_callee (f := 28) rfl ?_); refine goesL_ (some 96) rfl rfl Tryd.func28 (by kernel_rfl) rfl #[.string (rdOf ByteArray.empty y325 (ji46))] rfl (by (try simp only [List.map_toArray, List.map_cons, List.map_nil]); first | done | (simp only [hji46]; rfl) | rfl | (simp only [List.length_drop, List.length_take]; rfl)) ?_; (with_reducible refine (zipget_Get.calls kj6 (rdOf ByteArray.empty y325 (ji46)) t329 t332 _ A49.out).mono ?_); rintro e w56 ⟨v330, rfl, ho0, hb⟩; refine ⟨_, rfl, ?_⟩; have n0_ := qas (Kd.N_elder' (by (with_reducible repeat (first | apply Kd.N_alloc | apply Kd.N_drewN | apply Kd.N_drew)); exact HO_319000.out) (Kd.S_base ho0) hb); have n1_ := qas (Kd.R_below (by (with_reducible repeat (first | apply Kd.R_alloc | apply Kd.R_drewN | apply Kd.R_drew)); exact HO327.out) hb); have n2_ := qas (Kd.N_lower (Kd.N_mono (ok' := fun k_ => some k_ ≠ (.slice Ao13 y315.length co13 : Value).ownBlock ∧ some k_ ≠ (.slice (some ad328) y325.length co55 : Value).ownBlock ∧ k_ ≠ gb318) (Kd.S_N (Kd.S_bound ho0)) (fun k_ hk_ => ⟨(Kd.fresh' (Kd.N_lt (by (with_reducible repeat (first | apply Kd.N_alloc | apply Kd.N_drewN | apply Kd.N_drew)); exact HO_319000.out)) k_ hk_.2.1), (Kd.fresh' (Kd.R_lt (by (with_reducible repeat (first | apply Kd.R_alloc | apply Kd.R_drewN | apply Kd.R_drew)); exact HO327.out)) k_ hk_.2.1), (Kd.freshB (g := gb318) (o := .cells #[.slice Ao13 y315.length co13] 24 (0, 0)) (by (with_reducible repeat (first | refine qkA ?_ _ | refine qkB ?_ | refine qkC ?_ _)); exact BK318.out) k_ hk_.2.1)⟩)) (below_size (by repeat (first | (with_reducible first | exact HB.out | apply qbA | apply qbB | apply qbC | refine below_set ?_ GE318.out) | exact HB.out)))); have n3_ := qas (blk_below (g := gb318) (o := .cells #[.slice Ao13 y315.length co13] 24 (0, 0)) (by (with_reducible repeat (first | refine qkA ?_ _ | refine qkB ?_ | refine qkC ?_ _)); exact BK318.out) hb); have n4_ := qas (below_step (by repeat (first | (with_reducible first | exact HB.out | apply qbA | apply qbB | apply qbC | refine below_set ?_ GE318.out) | exact HB.out)) hb); clear HO_319000; clear HO327; clear BK318; clear HB; have HO_319000 := n0_; have HO327 := n1_; have HO331 := n2_; have BK318 := n3_; have HB := n4_; clear n0_ n1_ n2_ n3_ n4_; (try clear hb); (try clear hb2); (try clear hk); (try clear hi); (try clear ho0)) | ((with_reducible refine gate_dst (N := 10) rfl ?_); (try (refine gate_guard (by rfl) ?_; dsimp only)); refine box_event ?hg (N := 10) ?hd (cs := #[.slice none 0 0]) (t := 24) ?hr ?_; (case hd => rfl); (case hg => rfl); (case hr => first | (go_simp; done) | (go_simp; rfl)); intro gb333 hg w57 hbox hb; have n0_ := qas (Kd.N_below (Kd.N_elderB (by (with_reducible repeat (first | apply Kd.N_alloc | apply Kd.N_drewN | apply Kd.N_drew)); exact HO_319000.out) gb333 (Nat.le_of_eq hg.symm)) hb); have n1_ := qas (Kd.R_below (by (with_reducible repeat (first | apply Kd.R_alloc | apply Kd.R_drewN | apply Kd.R_drew)); exact HO327.out) hb); have n2_ := qas (Kd.N_below (Kd.N_elderB (by (with_reducible repeat (first | apply Kd.N_alloc | apply Kd.N_drewN | apply Kd.N_drew)); exact HO331.out) gb333 (Nat.le_of_eq hg.symm)) hb); have n3_ := qas (blk_below (g := gb318) (o := .cells #[.slice Ao13 y315.length co13] 24 (0, 0)) (by (with_reducible repeat (first | refine qkA ?_ _ | refine qkB ?_ | refine qkC ?_ _)); exact BK318.out) hb); have n4_ := qas (below_step (by repeat (first | (with_reducible first | exact HB.out | apply qbA | apply qbB | apply qbC | refine below_set ?_ GE318.out) | exact HB.out)) hb); have n5_ := qas (hbox); have n6_ := qas ((by rw [hg]; exact (below_size (by repeat (first | (with_reducible first | exact HB.out | apply qbA | apply qbB | apply qbC | refine below_set ?_ GE318.out) | exact HB.out))) : w.heap.size ≤ gb333)); have n7_ := qas ((by rw [hg]; exact (below_size (by repeat (first | (with_reducible first | exact HB.out | apply qbA | apply qbB | apply qbC | refine below_set ?_ GE318.out) | exact HB.out))) : w.heap.size ≤ gb333)); have n8_ := qas ((by rw [hg]; exact Nat.ne_of_lt (blk_lt (g := gb318) (o := .cells #[.slice Ao13 y315.length co13] 24 (0, 0)) (by (with_reducible repeat (first | refine qkA ?_ _ | refine qkB ?_ | refine qkC ?_ _)); exact BK318.out)) : gb318 ≠ gb333)); have n9_ := qas ((by rw [hg]; exact Nat.ne_of_gt (blk_lt (g := gb318) (o := .cells #[.slice Ao13 y315.length co13] 24 (0, 0)) (by (with_reducible repeat (first | refine qkA ?_ _ | refine qkB ?_ | refine qkC ?_ _)); exact BK318.out)) : gb333 ≠ gb318)); clear HO_319000; clear HO327; clear HO331; clear BK318; clear HB; have HO_319000 := n0_; have HO327 := n1_; have HO331 := n2_; have BK318 := n3_; have HB := n4_; have BK333 := n5_; have GW333 := n6_; have GE333 := n7_; have NB318_333 := n8_; have NB333_318 := n9_; clear n0_ n1_ n2_ n3_ n4_ n5_ n6_ n7_ n8_ n9_; clear hb hbox hg; obtain ⟨Ao58, co58, eo58⟩ := Kd.N_slice HO331.out; subst eo58; have hnb59 := NB333_318.out; have hnc59 := NB318_333.out; have hcz60_0 : w57.cell? ⟨gb333, 0, none⟩ = some (.slice none 0 0) := (blk_cell BK333.out 0).trans rfl; have hfz60_0 := blk_frozen BK333.out 0) | (go_at_call 19; (with_reducible refine (pl_Num.calls t332 t334 _ A51.out).mono ?_); rintro e w' ⟨rfl, ⟨nd, rfl⟩⟩))
   go_ret
   exact ⟨by first | rfl | (simp [errW_none, errW_some] <;> rfl) | (simp only [← hji36, ← hji40, ← hji46]; first | rfl | (simp [errW_none, errW_some] <;> rfl)) | (simp [*, errW_none, errW_some] <;> rfl), by repeat (first | (with_reducible first | exact HB.out | apply qbA | apply qbB | apply qbC | refine below_set ?_ GE318.out | refine below_set ?_ GE333.out) | exact HB.out)⟩

/-- THE ONE PURE STATEMENT of pn_UnzipForms: yours. -/
def pn_UnzipForms.Pure : Prop := ∀ (a0 : Int), (Lit.int .i64 a0).wf = true → ∃ k, pn_UnzipForms.f k a0 = some true
theorem pn_UnzipForms.walk (P : pn_UnzipForms.Pure) (a0 : Int) (w : World) (w0 : (Lit.int .i64 a0).wf = true) :
  Calls Tryd.prog 11 #[.int .i64 a0] w fun e w' => e = .returned (.bool true) ∧ Below w.heap.size w w' := by
 obtain ⟨k, h⟩ := P a0 w0
 refine (pn_UnzipForms.calls k a0 true w h).mono ?_
 rintro e w' ⟨rfl, hd⟩
 exact ⟨rfl, hd⟩

attribute [local go_sem] max2_int min2_int max_two min_two max_three min_three max_four min_four   -- for this text's walks alone
set_option linter.unusedVariables false
set_option linter.unusedSimpArgs false

end Go.Proofs.YtneogampbohfnaaDoor.ZG
