-- Written by a program of this session out of the translation (a changed copy of the kit's printer).
import Derived.Test.YtneogampbohfnaaDoorZG0
import Derived.Test.YtneogampbohfnaaDoorZG6
import Derived.Test.YtneogampbohfnaaDoorZG8
import Derived.Test.YtneogampbohfnaaDoorZG10
import Derived.Test.YtneogampbohfnaaDoorZG11
namespace Go.Proofs.YtneogampbohfnaaDoor.ZG
open Go.Proofs.YtneogampbohfnaaDoor.ZB (S39 z39 k39 k39_open k39_openM k39_mk k39_mkM rd_T39 at_T39)
open Go.RowKit Go.Proofs.YtneogampbohfnaaDoorW.PrintWords Go.Proofs.YtneogampbohfnaaDoorW.PrintLast Go.Proofs.YtneogampbohfnaaDoorW.PrintMore
attribute [local go_sem] max2_int min2_int max_two min_two max_three min_three max_four min_four   -- for this text's walks alone
set_option linter.unusedVariables false
set_option linter.unusedSimpArgs false

/-! ### portagelaw14_UnzipBack: function 9 -/
def portagelaw14_UnzipBack.j0 : Nat → ByteArray → Option (Bool)
 | 0, _ => none
 | k + 1, x1 => (zipget_Get.f k x1).bind fun bt353 => ((portagelaw0_Num.f bt353.2).bind fun t358 => (if t358 = 0 then ((zipput_Put.f bt353.1).bind fun bt359 => ((portagelaw0_Num.f bt359.2).bind fun t361 => (if t361 = 0 then (some (bt359.1.toList == x1.toList)) else (none)))) else (some ((bt353.1.length : Int) == 0))))
def portagelaw14_UnzipBack.f (k : Nat) (l0_0 : List (S39)) (a1 : ByteArray) (a2 : Int) : Option (Bool) := (portagelaw14_awake.f k).bind fun t336 => (if t336 = true then ((zipput_Put.f l0_0).bind fun bt337 => ((portagelaw0_Num.f bt337.2).bind fun t339 => (if t339 = 0 then ((zipget_Get.f k bt337.1).bind fun bt340 => (if (IntKind.u64.wrap (wrap64 ((bt337.1.size : Int) + 1))) = 0 then (none) else (if 0 ≤ (wrap64 (Int.tmod (IntKind.u64.wrap (a2)) (IntKind.u64.wrap (wrap64 ((bt337.1.size : Int) + 1))))) then (if (wrap64 (Int.tmod (IntKind.u64.wrap (a2)) (IntKind.u64.wrap (wrap64 ((bt337.1.size : Int) + 1))))) ≤ (bt337.1.size : Int) then ((zipget_Get.f k (bt337.1.extract 0 ((wrap64 (Int.tmod (IntKind.u64.wrap (a2)) (IntKind.u64.wrap (wrap64 ((bt337.1.size : Int) + 1))))) : Int).toNat)).bind fun bt345 => ((portagelaw0_Num.f bt340.2).bind fun t350 => (if t350 = 0 then ((portagelaw0_SameFolder.f k l0_0 bt340.1).bind fun t351 => (if t351 = true then ((portagelaw0_Num.f bt345.2).bind fun t352 => (if ((t352 == 0) != ((wrap64 (Int.tmod (IntKind.u64.wrap (a2)) (IntKind.u64.wrap (wrap64 ((bt337.1.size : Int) + 1))))) == (bt337.1.size : Int))) = true then (none) else (portagelaw14_UnzipBack.j0 k a1))) else (none))) else (none)))) else (none)) else (none)))) else (portagelaw14_UnzipBack.j0 k a1)))) else (none))
theorem portagelaw14_UnzipBack.mono_l : ∀ k, (∀ y0, LeO (portagelaw14_UnzipBack.j0 k y0) (portagelaw14_UnzipBack.j0 (k + 1) y0))
 | 0 => fun _ r h => by simp [portagelaw14_UnzipBack.j0] at h
 | k + 1 => by
  have ih0 := portagelaw14_UnzipBack.mono_l k
  ·intro y0
   unfold portagelaw14_UnzipBack.j0
   repeat' first
   | (with_reducible exact ih0 _)
   | (with_reducible exact portagelaw0_SameFolder.mono _ _ _)
   | (with_reducible exact portagelaw14_awake.mono _)
   | (with_reducible exact zipget_Get.mono _ _)
   | (with_reducible exact LeO.refl _)
   | (with_reducible exact LeO.none _)
   | (with_reducible refine LeO.ite ?_ ?_)
   | (with_reducible refine LeO.bind ?_ (fun _ => ?_))
   | exact ih0 _
   | exact portagelaw0_SameFolder.mono _ _ _
   | exact portagelaw14_awake.mono _
   | exact zipget_Get.mono _ _
   | exact LeO.none _
   | refine LeO.ite ?_ ?_
   | refine LeO.bind ?_ (fun _ => ?_)
theorem portagelaw14_UnzipBack.mono : ∀ a0 a1 a2 k, LeO (portagelaw14_UnzipBack.f k a0 a1 a2) (portagelaw14_UnzipBack.f (k + 1) a0 a1 a2) := by
 intro a0 a1 a2 k
 have ih0 := portagelaw14_UnzipBack.mono_l k
 unfold portagelaw14_UnzipBack.f
 repeat' first
   | (with_reducible exact ih0 _)
   | (with_reducible exact portagelaw0_SameFolder.mono _ _ _)
   | (with_reducible exact portagelaw14_awake.mono _)
   | (with_reducible exact zipget_Get.mono _ _)
   | (with_reducible exact LeO.refl _)
   | (with_reducible exact LeO.none _)
   | (with_reducible refine LeO.ite ?_ ?_)
   | (with_reducible refine LeO.bind ?_ (fun _ => ?_))
   | exact ih0 _
   | exact portagelaw0_SameFolder.mono _ _ _
   | exact portagelaw14_awake.mono _
   | exact zipget_Get.mono _ _
   | exact LeO.none _
   | refine LeO.ite ?_ ?_
   | refine LeO.bind ?_ (fun _ => ?_)
set_option maxHeartbeats 8000000 in
set_option maxRecDepth 100000 in
theorem portagelaw14_UnzipBack.calls (k : Nat) (A0_0 : Option Addr) (c0_0 : Nat) (l0_0 : List (S39)) (a1 : ByteArray) (a2 : Int) (r : Bool) (w : World) (hr0_0 : Kd.C k39 w A0_0 l0_0.length l0_0) (hc0_0 : l0_0.length ≤ c0_0) (h : portagelaw14_UnzipBack.f k l0_0 a1 a2 = some r) :
  Calls Tryd.prog 9 #[.agg #[.slice A0_0 l0_0.length c0_0], .string a1, .int .i64 a2] w fun e w' => e = .returned (.bool r) ∧ Below w.heap.size w w' := by
 have hu24 := Tryd.underlying24
 have HR0_0 := qas hr0_0
 have HC0_0 := qas hc0_0
 clear hr0_0 hc0_0
 have HB := qas (Below.refl w.heap.size w)
 have H : ((portagelaw14_awake.f k).bind fun t336 => (if t336 = true then ((zipput_Put.f l0_0).bind fun bt337 => ((portagelaw0_Num.f bt337.2).bind fun t339 => (if t339 = 0 then ((zipget_Get.f k bt337.1).bind fun bt340 => (if (IntKind.u64.wrap (wrap64 ((bt337.1.size : Int) + 1))) = 0 then (none) else (if 0 ≤ (wrap64 (Int.tmod (IntKind.u64.wrap (a2)) (IntKind.u64.wrap (wrap64 ((bt337.1.size : Int) + 1))))) then (if (wrap64 (Int.tmod (IntKind.u64.wrap (a2)) (IntKind.u64.wrap (wrap64 ((bt337.1.size : Int) + 1))))) ≤ (bt337.1.size : Int) then ((zipget_Get.f k (bt337.1.extract 0 ((wrap64 (Int.tmod (IntKind.u64.wrap (a2)) (IntKind.u64.wrap (wrap64 ((bt337.1.size : Int) + 1))))) : Int).toNat)).bind fun bt345 => ((portagelaw0_Num.f bt340.2).bind fun t350 => (if t350 = 0 then ((portagelaw0_SameFolder.f k l0_0 bt340.1).bind fun t351 => (if t351 = true then ((portagelaw0_Num.f bt345.2).bind fun t352 => (if ((t352 == 0) != ((wrap64 (Int.tmod (IntKind.u64.wrap (a2)) (IntKind.u64.wrap (wrap64 ((bt337.1.size : Int) + 1))))) == (bt337.1.size : Int))) = true then (none) else (portagelaw14_UnzipBack.j0 k a1))) else (none))) else (none)))) else (none)) else (none)))) else (portagelaw14_UnzipBack.j0 k a1)))) else (none))) = some r := h
 clear h
 replace H := Option.bind_eq_some_iff.mp H
 obtain ⟨t336, A40, H⟩ := H
 replace H : (if t336 = true then ((zipput_Put.f l0_0).bind fun bt337 => ((portagelaw0_Num.f bt337.2).bind fun t339 => (if t339 = 0 then ((zipget_Get.f k bt337.1).bind fun bt340 => (if (IntKind.u64.wrap (wrap64 ((bt337.1.size : Int) + 1))) = 0 then (none) else (if 0 ≤ (wrap64 (Int.tmod (IntKind.u64.wrap (a2)) (IntKind.u64.wrap (wrap64 ((bt337.1.size : Int) + 1))))) then (if (wrap64 (Int.tmod (IntKind.u64.wrap (a2)) (IntKind.u64.wrap (wrap64 ((bt337.1.size : Int) + 1))))) ≤ (bt337.1.size : Int) then ((zipget_Get.f k (bt337.1.extract 0 ((wrap64 (Int.tmod (IntKind.u64.wrap (a2)) (IntKind.u64.wrap (wrap64 ((bt337.1.size : Int) + 1))))) : Int).toNat)).bind fun bt345 => ((portagelaw0_Num.f bt340.2).bind fun t350 => (if t350 = 0 then ((portagelaw0_SameFolder.f k l0_0 bt340.1).bind fun t351 => (if t351 = true then ((portagelaw0_Num.f bt345.2).bind fun t352 => (if ((t352 == 0) != ((wrap64 (Int.tmod (IntKind.u64.wrap (a2)) (IntKind.u64.wrap (wrap64 ((bt337.1.size : Int) + 1))))) == (bt337.1.size : Int))) = true then (none) else (portagelaw14_UnzipBack.j0 k a1))) else (none))) else (none)))) else (none)) else (none)))) else (portagelaw14_UnzipBack.j0 k a1)))) else (none)) = some r := H
 have A4 := qas A40
 clear A40
 by_cases c5 : t336 = true
 ·subst c5
  have H1 : ((zipput_Put.f l0_0).bind fun bt337 => ((portagelaw0_Num.f bt337.2).bind fun t339 => (if t339 = 0 then ((zipget_Get.f k bt337.1).bind fun bt340 => (if (IntKind.u64.wrap (wrap64 ((bt337.1.size : Int) + 1))) = 0 then (none) else (if 0 ≤ (wrap64 (Int.tmod (IntKind.u64.wrap (a2)) (IntKind.u64.wrap (wrap64 ((bt337.1.size : Int) + 1))))) then (if (wrap64 (Int.tmod (IntKind.u64.wrap (a2)) (IntKind.u64.wrap (wrap64 ((bt337.1.size : Int) + 1))))) ≤ (bt337.1.size : Int) then ((zipget_Get.f k (bt337.1.extract 0 ((wrap64 (Int.tmod (IntKind.u64.wrap (a2)) (IntKind.u64.wrap (wrap64 ((bt337.1.size : Int) + 1))))) : Int).toNat)).bind fun bt345 => ((portagelaw0_Num.f bt340.2).bind fun t350 => (if t350 = 0 then ((portagelaw0_SameFolder.f k l0_0 bt340.1).bind fun t351 => (if t351 = true then ((portagelaw0_Num.f bt345.2).bind fun t352 => (if ((t352 == 0) != ((wrap64 (Int.tmod (IntKind.u64.wrap (a2)) (IntKind.u64.wrap (wrap64 ((bt337.1.size : Int) + 1))))) == (bt337.1.size : Int))) = true then (none) else (portagelaw14_UnzipBack.j0 k a1))) else (none))) else (none)))) else (none)) else (none)))) else (portagelaw14_UnzipBack.j0 k a1)))) = some r := by rw [if_pos rfl] at H; exact H
  clear H
  have H := H1
  clear H1
  replace H := Option.bind_eq_some_iff.mp H
  obtain ⟨⟨t337, t338⟩, A60, H⟩ := H
  replace H : ((portagelaw0_Num.f t338).bind fun t339 => (if t339 = 0 then ((zipget_Get.f k t337).bind fun bt340 => (if (IntKind.u64.wrap (wrap64 ((t337.size : Int) + 1))) = 0 then (none) else (if 0 ≤ (wrap64 (Int.tmod (IntKind.u64.wrap (a2)) (IntKind.u64.wrap (wrap64 ((t337.size : Int) + 1))))) then (if (wrap64 (Int.tmod (IntKind.u64.wrap (a2)) (IntKind.u64.wrap (wrap64 ((t337.size : Int) + 1))))) ≤ (t337.size : Int) then ((zipget_Get.f k (t337.extract 0 ((wrap64 (Int.tmod (IntKind.u64.wrap (a2)) (IntKind.u64.wrap (wrap64 ((t337.size : Int) + 1))))) : Int).toNat)).bind fun bt345 => ((portagelaw0_Num.f bt340.2).bind fun t350 => (if t350 = 0 then ((portagelaw0_SameFolder.f k l0_0 bt340.1).bind fun t351 => (if t351 = true then ((portagelaw0_Num.f bt345.2).bind fun t352 => (if ((t352 == 0) != ((wrap64 (Int.tmod (IntKind.u64.wrap (a2)) (IntKind.u64.wrap (wrap64 ((t337.size : Int) + 1))))) == (t337.size : Int))) = true then (none) else (portagelaw14_UnzipBack.j0 k a1))) else (none))) else (none)))) else (none)) else (none)))) else (portagelaw14_UnzipBack.j0 k a1))) = some r := H
  have A6 := qas A60
  clear A60
  replace H := Option.bind_eq_some_iff.mp H
  obtain ⟨t339, A70, H⟩ := H
  replace H : (if t339 = 0 then ((zipget_Get.f k t337).bind fun bt340 => (if (IntKind.u64.wrap (wrap64 ((t337.size : Int) + 1))) = 0 then (none) else (if 0 ≤ (wrap64 (Int.tmod (IntKind.u64.wrap (a2)) (IntKind.u64.wrap (wrap64 ((t337.size : Int) + 1))))) then (if (wrap64 (Int.tmod (IntKind.u64.wrap (a2)) (IntKind.u64.wrap (wrap64 ((t337.size : Int) + 1))))) ≤ (t337.size : Int) then ((zipget_Get.f k (t337.extract 0 ((wrap64 (Int.tmod (IntKind.u64.wrap (a2)) (IntKind.u64.wrap (wrap64 ((t337.size : Int) + 1))))) : Int).toNat)).bind fun bt345 => ((portagelaw0_Num.f bt340.2).bind fun t350 => (if t350 = 0 then ((portagelaw0_SameFolder.f k l0_0 bt340.1).bind fun t351 => (if t351 = true then ((portagelaw0_Num.f bt345.2).bind fun t352 => (if ((t352 == 0) != ((wrap64 (Int.tmod (IntKind.u64.wrap (a2)) (IntKind.u64.wrap (wrap64 ((t337.size : Int) + 1))))) == (t337.size : Int))) = true then (none) else (portagelaw14_UnzipBack.j0 k a1))) else (none))) else (none)))) else (none)) else (none)))) else (portagelaw14_UnzipBack.j0 k a1)) = some r := H
  have A7 := qas A70
  clear A70
  have HC8 := qas H
  clear H
  go_enter Tryd.func9, Tryd.ntmps9
  go_upto_if 27 with (first | ((with_reducible refine gate_dst (N := 3) rfl ?_); (try (refine gate_guard (by rfl) ?_; dsimp only)); refine box_event ?hg (N := 3) ?hd (cs := #[.slice A0_0 l0_0.length c0_0]) (t := 24) ?hr ?_; (case hd => rfl); (case hg => rfl); (case hr => first | (go_simp; done) | (go_simp; rfl)); intro gb335 hg w9 hbox hb; have n0_ := qas (below_step (by repeat (first | (with_reducible first | exact HB.out | apply qbA | apply qbB | apply qbC) | exact HB.out)) hb); have n1_ := qas (hbox); have n2_ := qas ((by rw [hg]; exact (below_size (by repeat (first | (with_reducible first | exact HB.out | apply qbA | apply qbB | apply qbC) | exact HB.out))) : w.heap.size ≤ gb335)); have n3_ := qas ((by rw [hg]; exact (below_size (by repeat (first | (with_reducible first | exact HB.out | apply qbA | apply qbB | apply qbC) | exact HB.out))) : w.heap.size ≤ gb335)); clear HB; have HB := n0_; have BK335 := n1_; have GW335 := n2_; have GE335 := n3_; clear n0_ n1_ n2_ n3_; clear hb hbox hg) | ((with_reducible refine gate_callee (f := 31) rfl ?_); refine goesL_ (some 18) rfl rfl Tryd.func31 (by kernel_rfl) rfl #[] rfl (by (try simp only [List.map_toArray, List.map_cons, List.map_nil]); first | done | rfl | (simp only [List.length_drop, List.length_take]; rfl)) ?_; (with_reducible refine (portagelaw14_awake.calls k  true _ A4.out).mono ?_); rintro e w10 ⟨rfl, hb⟩; refine ⟨_, rfl, ?_⟩; have n0_ := qas (blk_below (g := gb335) (o := .cells #[.slice A0_0 l0_0.length c0_0] 24 (0, 0)) (by (with_reducible repeat (first | refine qkA ?_ _ | refine qkB ?_ | refine qkC ?_ _)); exact BK335.out) hb); have n1_ := qas (below_step (by repeat (first | (with_reducible first | exact HB.out | apply qbA | apply qbB | apply qbC | refine below_set ?_ GE335.out) | exact HB.out)) hb); clear BK335; clear HB; have BK335 := n0_; have HB := n1_; clear n0_ n1_; (try clear hb); (try clear hb2); (try clear hk); (try clear hi); have hcz11_0 : w10.cell? ⟨gb335, 0, none⟩ = some (.slice A0_0 l0_0.length c0_0) := (blk_cell BK335.out 0).trans rfl; have hfz11_0 := blk_frozen BK335.out 0) | ((with_reducible refine gate_callee (f := 17) rfl ?_); refine goesL_ (some 22) rfl rfl Tryd.func17 (by kernel_rfl) rfl #[.agg #[.slice A0_0 l0_0.length c0_0]] rfl (by (try simp only [List.map_toArray, List.map_cons, List.map_nil]); first | done | rfl | (simp only [List.length_drop, List.length_take]; rfl)) ?_; (with_reducible refine (zipput_Put.calls _ _ l0_0 t337 t338 _ ?side1 ?side2 A6.out).mono ?_); (case side1 => repeat (first | exact (Kd.C_below HR0_0.out HB.out) | (with_reducible refine Kd.C_alloc ?_ _) | (with_reducible refine Kd.C_drewN ?_ _) | (with_reducible refine Kd.C_drew ?_))); (case side2 => exact HC0_0.out); rintro e w12 ⟨rfl, hb⟩; refine ⟨_, rfl, ?_⟩; have n0_ := qas (blk_below (g := gb335) (o := .cells #[.slice A0_0 l0_0.length c0_0] 24 (0, 0)) (by (with_reducible repeat (first | refine qkA ?_ _ | refine qkB ?_ | refine qkC ?_ _)); exact BK335.out) hb); have n1_ := qas (below_step (by repeat (first | (with_reducible first | exact HB.out | apply qbA | apply qbB | apply qbC | refine below_set ?_ GE335.out) | exact HB.out)) hb); clear BK335; clear HB; have BK335 := n0_; have HB := n1_; clear n0_ n1_; (try clear hb); (try clear hb2); (try clear hk); (try clear hi)) | ((with_reducible refine gate_callee (f := 19) rfl ?_); refine goesL_ (some 26) rfl rfl Tryd.func19 (by kernel_rfl) rfl #[.int .i64 t338] rfl (by (try simp only [List.map_toArray, List.map_cons, List.map_nil]); first | done | rfl | (simp only [List.length_drop, List.length_take]; rfl)) ?_; (with_reducible refine (portagelaw0_Num.calls t338 t339 _ A7.out).mono ?_); rintro e w' ⟨rfl, ⟨nd, rfl⟩⟩; refine ⟨_, rfl, ?_⟩))
  (try simp only [Act.put, qsA, qsB, qsC])
  go_cut [] (fun wc => ∃ (kq : Nat), Aside0 (portagelaw14_UnzipBack.j0 kq a1 = some r) ∧ Aside0 (kq ≤ k) ∧ Aside0 (wc.heap[gb335]? = some (.cells #[(.slice A0_0 l0_0.length c0_0)] 24 (0, 0))) ∧ Aside0 (Below w.heap.size w wc))
  case first =>
   have H := HC8.out
   clear HC8
   by_cases c13 : t339 = 0
   ·rw [if_pos c13] at H
    have c13b0 : (t339 == 0) = true := beq_iff_eq.mpr c13
    have c13b1 : (t339 != 0) = false := bne_eq_false_iff_eq.mpr c13
    clear c13
    (first | rw [c13b0] | (simp only [i64_w, i32_w]; rw [c13b0]) | skip)
    replace H := Option.bind_eq_some_iff.mp H
    obtain ⟨⟨t340, t343⟩, A140, H⟩ := H
    replace H : (if (IntKind.u64.wrap (wrap64 ((t337.size : Int) + 1))) = 0 then (none) else (if 0 ≤ (wrap64 (Int.tmod (IntKind.u64.wrap (a2)) (IntKind.u64.wrap (wrap64 ((t337.size : Int) + 1))))) then (if (wrap64 (Int.tmod (IntKind.u64.wrap (a2)) (IntKind.u64.wrap (wrap64 ((t337.size : Int) + 1))))) ≤ (t337.size : Int) then ((zipget_Get.f k (t337.extract 0 ((wrap64 (Int.tmod (IntKind.u64.wrap (a2)) (IntKind.u64.wrap (wrap64 ((t337.size : Int) + 1))))) : Int).toNat)).bind fun bt345 => ((portagelaw0_Num.f t343).bind fun t350 => (if t350 = 0 then ((portagelaw0_SameFolder.f k l0_0 t340).bind fun t351 => (if t351 = true then ((portagelaw0_Num.f bt345.2).bind fun t352 => (if ((t352 == 0) != ((wrap64 (Int.tmod (IntKind.u64.wrap (a2)) (IntKind.u64.wrap (wrap64 ((t337.size : Int) + 1))))) == (t337.size : Int))) = true then (none) else (portagelaw14_UnzipBack.j0 k a1))) else (none))) else (none)))) else (none)) else (none))) = some r := H
    have A14 := qas A140
    clear A140
    by_cases c15 : (IntKind.u64.wrap (wrap64 ((t337.size : Int) + 1))) = 0
    ·rw [if_pos c15] at H
     exact absurd H (by simp)
    ·rw [if_neg c15] at H
     have c15b0 : ((IntKind.u64.wrap (wrap64 ((t337.size : Int) + 1))) == 0) = false := beq_eq_false_iff_ne.mpr c15
     have c15b1 : ((IntKind.u64.wrap (wrap64 ((t337.size : Int) + 1))) != 0) = true := bne_iff_ne.mpr c15
     obtain ⟨ji16, hji16⟩ : ∃ j_ : Int, (wrap64 (Int.tmod (IntKind.u64.wrap (a2)) (IntKind.u64.wrap (wrap64 ((t337.size : Int) + 1))))) = j_ := ⟨_, rfl⟩
     replace H : (if 0 ≤ (ji16) then (if (ji16) ≤ (t337.size : Int) then ((zipget_Get.f k (t337.extract 0 ((ji16) : Int).toNat)).bind fun bt345 => ((portagelaw0_Num.f t343).bind fun t350 => (if t350 = 0 then ((portagelaw0_SameFolder.f k l0_0 t340).bind fun t351 => (if t351 = true then ((portagelaw0_Num.f bt345.2).bind fun t352 => (if ((t352 == 0) != ((ji16) == (t337.size : Int))) = true then (none) else (portagelaw14_UnzipBack.j0 k a1))) else (none))) else (none)))) else (none)) else (none)) = some r := by first | (rw [hji16] at H; exact H) | (simp only [hji16] at H ⊢; exact H)
     (try rw [hji16] at A14)
     have hji16w : (IntKind.i64.wrap (Int.tmod (IntKind.u64.wrap (a2)) (IntKind.u64.wrap (wrap64 ((t337.size : Int) + 1))))) = ji16 := (i64_w _).trans hji16
     by_cases c17 : 0 ≤ (ji16)
     ·rw [if_pos c17] at H
      have c17b0 := eq_true c17
      have c17b1 : decide (0 ≤ (ji16)) = true := decide_eq_true c17
      clear c17
      by_cases c18 : (ji16) ≤ (t337.size : Int)
      ·rw [if_pos c18] at H
       have c18b0 := eq_true c18
       have c18b1 : decide ((ji16) ≤ (t337.size : Int)) = true := decide_eq_true c18
       clear c18
       replace H := Option.bind_eq_some_iff.mp H
       obtain ⟨⟨t345, t348⟩, A190, H⟩ := H
       replace H : ((portagelaw0_Num.f t343).bind fun t350 => (if t350 = 0 then ((portagelaw0_SameFolder.f k l0_0 t340).bind fun t351 => (if t351 = true then ((portagelaw0_Num.f t348).bind fun t352 => (if ((t352 == 0) != ((ji16) == (t337.size : Int))) = true then (none) else (portagelaw14_UnzipBack.j0 k a1))) else (none))) else (none))) = some r := H
       have A19 := qas A190
       clear A190
       replace H := Option.bind_eq_some_iff.mp H
       obtain ⟨t350, A200, H⟩ := H
       replace H : (if t350 = 0 then ((portagelaw0_SameFolder.f k l0_0 t340).bind fun t351 => (if t351 = true then ((portagelaw0_Num.f t348).bind fun t352 => (if ((t352 == 0) != ((ji16) == (t337.size : Int))) = true then (none) else (portagelaw14_UnzipBack.j0 k a1))) else (none))) else (none)) = some r := H
       have A20 := qas A200
       clear A200
       by_cases c21 : t350 = 0
       ·rw [if_pos c21] at H
        have c21b0 : (t350 == 0) = true := beq_iff_eq.mpr c21
        have c21b1 : (t350 != 0) = false := bne_eq_false_iff_eq.mpr c21
        clear c21
        replace H := Option.bind_eq_some_iff.mp H
        obtain ⟨t351, A220, H⟩ := H
        replace H : (if t351 = true then ((portagelaw0_Num.f t348).bind fun t352 => (if ((t352 == 0) != ((ji16) == (t337.size : Int))) = true then (none) else (portagelaw14_UnzipBack.j0 k a1))) else (none)) = some r := H
        have A22 := qas A220
        clear A220
        by_cases c23 : t351 = true
        ·subst c23
         have H1 : ((portagelaw0_Num.f t348).bind fun t352 => (if ((t352 == 0) != ((ji16) == (t337.size : Int))) = true then (none) else (portagelaw14_UnzipBack.j0 k a1))) = some r := by rw [if_pos rfl] at H; exact H
         clear H
         have H := H1
         clear H1
         replace H := Option.bind_eq_some_iff.mp H
         obtain ⟨t352, A240, H⟩ := H
         replace H : (if ((t352 == 0) != ((ji16) == (t337.size : Int))) = true then (none) else (portagelaw14_UnzipBack.j0 k a1)) = some r := H
         have A24 := qas A240
         clear A240
         by_cases c25 : ((t352 == 0) != ((ji16) == (t337.size : Int))) = true
         ·rw [if_pos c25] at H
          exact absurd H (by simp)
         ·rw [if_neg c25] at H
          have c25b0 : ((t352 == 0) != ((ji16) == (t337.size : Int))) = false := by simpa using c25
          (try (have c25b1 : decide ((t352 == 0) = ((ji16) == (t337.size : Int))) = true := by simpa using c25))
          (try (have c25b2 : ((t352 == 0) == ((ji16) == (t337.size : Int))) = true := by simpa using c25))
          clear c25
          have H' := qas H
          clear H
          go_wp2_with (first | ((with_reducible refine gate_callee (f := 28) rfl ?_); refine goesL_ (some 30) rfl rfl Tryd.func28 (by kernel_rfl) rfl #[.string t337] rfl (by (try simp only [List.map_toArray, List.map_cons, List.map_nil]); first | done | rfl | (simp only [List.length_drop, List.length_take]; rfl)) ?_; (with_reducible refine (zipget_Get.calls k t337 t340 t343 _ A14.out).mono ?_); rintro e w26 ⟨v341, rfl, ho0, hb⟩; refine ⟨_, rfl, ?_⟩; have n0_ := qas (Kd.S_lower ho0 (below_size (by repeat (first | (with_reducible first | exact HB.out | apply qbA | apply qbB | apply qbC | refine below_set ?_ GE335.out) | exact HB.out)))); have n1_ := qas (blk_below (g := gb335) (o := .cells #[.slice A0_0 l0_0.length c0_0] 24 (0, 0)) (by (with_reducible repeat (first | refine qkA ?_ _ | refine qkB ?_ | refine qkC ?_ _)); exact BK335.out) hb); have n2_ := qas (below_step (by repeat (first | (with_reducible first | exact HB.out | apply qbA | apply qbB | apply qbC | refine below_set ?_ GE335.out) | exact HB.out)) hb); clear BK335; clear HB; have HO342 := n0_; have BK335 := n1_; have HB := n2_; clear n0_ n1_ n2_; (try clear hb); (try clear hb2); (try clear hk); (try clear hi); (try clear ho0)) | ((with_reducible refine gate_dst (N := 9) rfl ?_); (try (refine gate_guard (by rfl) ?_; dsimp only)); refine box_event ?hg (N := 9) ?hd (cs := #[.slice none 0 0]) (t := 24) ?hr ?_; (case hd => rfl); (case hg => rfl); (case hr => first | (go_simp; done) | (go_simp; rfl)); intro gb344 hg w27 hbox hb; have n0_ := qas (Kd.S_below (by (with_reducible repeat (first | apply Kd.S_alloc | apply Kd.S_drewN | apply Kd.S_drew)); exact HO342.out) hb); have n1_ := qas (blk_below (g := gb335) (o := .cells #[.slice A0_0 l0_0.length c0_0] 24 (0, 0)) (by (with_reducible repeat (first | refine qkA ?_ _ | refine qkB ?_ | refine qkC ?_ _)); exact BK335.out) hb); have n2_ := qas (below_step (by repeat (first | (with_reducible first | exact HB.out | apply qbA | apply qbB | apply qbC | refine below_set ?_ GE335.out) | exact HB.out)) hb); have n3_ := qas (hbox); have n4_ := qas ((by rw [hg]; exact (below_size (by repeat (first | (with_reducible first | exact HB.out | apply qbA | apply qbB | apply qbC | refine below_set ?_ GE335.out) | exact HB.out))) : w.heap.size ≤ gb344)); have n5_ := qas ((by rw [hg]; exact (below_size (by repeat (first | (with_reducible first | exact HB.out | apply qbA | apply qbB | apply qbC | refine below_set ?_ GE335.out) | exact HB.out))) : w.heap.size ≤ gb344)); have n6_ := qas ((by rw [hg]; exact Nat.ne_of_lt (blk_lt (g := gb335) (o := .cells #[.slice A0_0 l0_0.length c0_0] 24 (0, 0)) (by (with_reducible repeat (first | refine qkA ?_ _ | refine qkB ?_ | refine qkC ?_ _)); exact BK335.out)) : gb335 ≠ gb344)); have n7_ := qas ((by rw [hg]; exact Nat.ne_of_gt (blk_lt (g := gb335) (o := .cells #[.slice A0_0 l0_0.length c0_0] 24 (0, 0)) (by (with_reducible repeat (first | refine qkA ?_ _ | refine qkB ?_ | refine qkC ?_ _)); exact BK335.out)) : gb344 ≠ gb335)); clear HO342; clear BK335; clear HB; have HO342 := n0_; have BK335 := n1_; have HB := n2_; have BK344 := n3_; have GW344 := n4_; have GE344 := n5_; have NB335_344 := n6_; have NB344_335 := n7_; clear n0_ n1_ n2_ n3_ n4_ n5_ n6_ n7_; clear hb hbox hg; obtain ⟨Ao28, co28, eo28⟩ := Kd.S_slice HO342.out; subst eo28; have hnb29 := NB344_335.out; have hnc29 := NB335_344.out; have hcz30_0 : w27.cell? ⟨gb344, 0, none⟩ = some (.slice none 0 0) := (blk_cell BK344.out 0).trans rfl; have hfz30_0 := blk_frozen BK344.out 0) | ((with_reducible refine gate_callee (f := 28) rfl ?_); refine goesL_ (some 45) rfl rfl Tryd.func28 (by kernel_rfl) rfl #[.string (t337.extract 0 ((ji16) : Int).toNat)] rfl (by (try simp only [List.map_toArray, List.map_cons, List.map_nil]); first | done | (simp only [hji16]; rfl) | rfl | (simp only [List.length_drop, List.length_take]; rfl)) ?_; (with_reducible refine (zipget_Get.calls k (t337.extract 0 ((ji16) : Int).toNat) t345 t348 _ A19.out).mono ?_); rintro e w31 ⟨v346, rfl, ho0, hb⟩; refine ⟨_, rfl, ?_⟩; have n0_ := qas (Kd.S_elder' (by (with_reducible repeat (first | apply Kd.S_alloc | apply Kd.S_drewN | apply Kd.S_drew)); exact (Kd.S_mono (Kd.S_far (p := ⟨gb344, 0, none⟩) (Kd.S_types HO342.out BK344.out (by decide)) (fun _ hk => hk.2) (.slice Ao28 t340.length co28)) (fun _ h_ => h_.1))) (Kd.S_base ho0) hb); have n1_ := qas (Kd.S_lower (Kd.S_new' ho0 (Kd.S_lt (by (with_reducible repeat (first | apply Kd.S_alloc | apply Kd.S_drewN | apply Kd.S_drew)); exact (Kd.S_mono (Kd.S_far (p := ⟨gb344, 0, none⟩) (Kd.S_types HO342.out BK344.out (by decide)) (fun _ hk => hk.2) (.slice Ao28 t340.length co28)) (fun _ h_ => h_.1))))) (below_size (by repeat (first | (with_reducible first | exact HB.out | apply qbA | apply qbB | apply qbC | refine below_set ?_ GE335.out | refine below_set ?_ GE344.out) | exact HB.out)))); have n2_ := qas (blk_below (g := gb335) (o := .cells #[.slice A0_0 l0_0.length c0_0] 24 (0, 0)) (by (with_reducible repeat (first | refine qkA ?_ _ | refine qkB ?_ | refine qkC ?_ _)); refine blk_far ?_ NB335_344.out _; (with_reducible repeat (first | refine qkA ?_ _ | refine qkB ?_ | refine qkC ?_ _)); exact BK335.out) hb); have n3_ := qas (blk_below (g := gb344) (o := .cells #[.slice Ao28 t340.length co28] 24 (0, 0)) (by (with_reducible repeat (first | refine qkA ?_ _ | refine qkB ?_ | refine qkC ?_ _)); refine blk_put (cs := #[.slice none 0 0]) ?_ 0 _ rfl; (with_reducible repeat (first | refine qkA ?_ _ | refine qkB ?_ | refine qkC ?_ _)); exact BK344.out) hb); have n4_ := qas (below_step (by repeat (first | (with_reducible first | exact HB.out | apply qbA | apply qbB | apply qbC | refine below_set ?_ GE335.out | refine below_set ?_ GE344.out) | exact HB.out)) hb); clear HO342; clear BK335; clear BK344; clear HB; have HO342 := n0_; have HO347 := n1_; have BK335 := n2_; have BK344 := n3_; have HB := n4_; clear n0_ n1_ n2_ n3_ n4_; (try clear hb); (try clear hb2); (try clear hk); (try clear hi); (try clear ho0)) | ((with_reducible refine gate_dst (N := 12) rfl ?_); (try (refine gate_guard (by rfl) ?_; dsimp only)); refine box_event ?hg (N := 12) ?hd (cs := #[.slice none 0 0]) (t := 24) ?hr ?_; (case hd => rfl); (case hg => rfl); (case hr => first | (go_simp; done) | (go_simp; rfl)); intro gb349 hg w32 hbox hb; have n0_ := qas (Kd.S_below (by (with_reducible repeat (first | apply Kd.S_alloc | apply Kd.S_drewN | apply Kd.S_drew)); exact HO342.out) hb); have n1_ := qas (Kd.S_below (by (with_reducible repeat (first | apply Kd.S_alloc | apply Kd.S_drewN | apply Kd.S_drew)); exact HO347.out) hb); have n2_ := qas (blk_below (g := gb335) (o := .cells #[.slice A0_0 l0_0.length c0_0] 24 (0, 0)) (by (with_reducible repeat (first | refine qkA ?_ _ | refine qkB ?_ | refine qkC ?_ _)); exact BK335.out) hb); have n3_ := qas (blk_below (g := gb344) (o := .cells #[.slice Ao28 t340.length co28] 24 (0, 0)) (by (with_reducible repeat (first | refine qkA ?_ _ | refine qkB ?_ | refine qkC ?_ _)); exact BK344.out) hb); have n4_ := qas (below_step (by repeat (first | (with_reducible first | exact HB.out | apply qbA | apply qbB | apply qbC | refine below_set ?_ GE335.out | refine below_set ?_ GE344.out) | exact HB.out)) hb); have n5_ := qas (hbox); have n6_ := qas ((by rw [hg]; exact (below_size (by repeat (first | (with_reducible first | exact HB.out | apply qbA | apply qbB | apply qbC | refine below_set ?_ GE335.out | refine below_set ?_ GE344.out) | exact HB.out))) : w.heap.size ≤ gb349)); have n7_ := qas ((by rw [hg]; exact (below_size (by repeat (first | (with_reducible first | exact HB.out | apply qbA | apply qbB | apply qbC | refine below_set ?_ GE335.out | refine below_set ?_ GE344.out) | exact HB.out))) : w.heap.size ≤ gb349)); have n8_ := qas ((by rw [hg]; exact Nat.ne_of_lt (blk_lt (g := gb335) (o := .cells #[.slice A0_0 l0_0.length c0_0] 24 (0, 0)) (by (with_reducible repeat (first | refine qkA ?_ _ | refine qkB ?_ | refine qkC ?_ _)); exact BK335.out)) : gb335 ≠ gb349)); have n9_ := qas ((by rw [hg]; exact Nat.ne_of_gt (blk_lt (g := gb335) (o := .cells #[.slice A0_0 l0_0.length c0_0] 24 (0, 0)) (by (with_reducible repeat (first | refine qkA ?_ _ | refine qkB ?_ | refine qkC ?_ _)); exact BK335.out)) : gb349 ≠ gb335)); have n10_ := qas ((by rw [hg]; exact Nat.ne_of_lt (blk_lt (g := gb344) (o := .cells #[.slice Ao28 t340.length co28] 24 (0, 0)) (by (with_reducible repeat (first | refine qkA ?_ _ | refine qkB ?_ | refine qkC ?_ _)); exact BK344.out)) : gb344 ≠ gb349)); have n11_ := qas ((by rw [hg]; exact Nat.ne_of_gt (blk_lt (g := gb344) (o := .cells #[.slice Ao28 t340.length co28] 24 (0, 0)) (by (with_reducible repeat (first | refine qkA ?_ _ | refine qkB ?_ | refine qkC ?_ _)); exact BK344.out)) : gb349 ≠ gb344)); clear HO342; clear HO347; clear BK335; clear BK344; clear HB; have HO342 := n0_; have HO347 := n1_; have BK335 := n2_; have BK344 := n3_; have HB := n4_; have BK349 := n5_; have GW349 := n6_; have GE349 := n7_; have NB335_349 := n8_; have NB349_335 := n9_; have NB344_349 := n10_; have NB349_344 := n11_; clear n0_ n1_ n2_ n3_ n4_ n5_ n6_ n7_ n8_ n9_ n10_ n11_; clear hb hbox hg; obtain ⟨Ao33, co33, eo33⟩ := Kd.S_slice HO347.out; subst eo33; have hnb34 := NB349_335.out; have hnc34 := NB335_349.out; have hnb35 := NB349_344.out; have hnc35 := NB344_349.out; have hcz36_0 : w32.cell? ⟨gb349, 0, none⟩ = some (.slice none 0 0) := (blk_cell BK349.out 0).trans rfl; have hfz36_0 := blk_frozen BK349.out 0) | ((with_reducible refine gate_callee (f := 19) rfl ?_); refine goesL_ (some 49) rfl rfl Tryd.func19 (by kernel_rfl) rfl #[.int .i64 t343] rfl (by (try simp only [List.map_toArray, List.map_cons, List.map_nil]); first | done | rfl | (simp only [List.length_drop, List.length_take]; rfl)) ?_; (with_reducible refine (portagelaw0_Num.calls t343 t350 _ A20.out).mono ?_); rintro e w' ⟨rfl, ⟨nd, rfl⟩⟩; refine ⟨_, rfl, ?_⟩; have hcz37_0 : w32.cell? ⟨gb335, 0, none⟩ = some (.slice A0_0 l0_0.length c0_0) := (blk_cell BK335.out 0).trans rfl; have hfz37_0 := blk_frozen BK335.out 0; have hcz38_0 : w32.cell? ⟨gb344, 0, none⟩ = some (.slice Ao28 t340.length co28) := (blk_cell BK344.out 0).trans rfl; have hfz38_0 := blk_frozen BK344.out 0) | (go_at_call 24; (with_reducible refine (portagelaw0_SameFolder.calls k _ _ l0_0 _ _ t340 true _ ?side1 ?side2 ?side3 ?side4 A22.out).mono ?_); (case side1 => exact Kd.C_below HR0_0.out (by repeat (first | (with_reducible first | exact HB.out | apply qbA | apply qbB | apply qbC | refine below_set ?_ GE335.out | refine below_set ?_ GE344.out | refine below_set ?_ GE349.out) | exact HB.out))); (case side2 => exact HC0_0.out); (case side3 => refine (Kd.S_reads' (e := 39) (base := w.heap.size) (ok := fun k_ => (True ∧ some k_ ≠ (.slice Ao33 t345.length co33 : Value).ownBlock)) (n := t340.length) (c := co28) ?_).2.2; exact (by (with_reducible repeat (first | apply Kd.S_alloc | apply Kd.S_drewN | apply Kd.S_drew)); exact (Kd.S_mono (Kd.S_far (p := ⟨gb349, 0, none⟩) (Kd.S_types HO342.out BK349.out (by decide)) (fun _ hk => hk.2) (.slice Ao33 t345.length co33)) (fun _ h_ => h_.1)))); (case side4 => exact (Kd.S_reads' HO342.out).2.1); rintro e w39 ⟨rfl, hb⟩; have n0_ := qas (Kd.S_below (by (with_reducible repeat (first | apply Kd.S_alloc | apply Kd.S_drewN | apply Kd.S_drew)); exact (Kd.S_mono (Kd.S_far (p := ⟨gb349, 0, none⟩) (Kd.S_types HO342.out BK349.out (by decide)) (fun _ hk => hk.2) (.slice Ao33 t345.length co33)) (fun _ h_ => h_.1))) hb); have n1_ := qas (Kd.S_below (by (with_reducible repeat (first | apply Kd.S_alloc | apply Kd.S_drewN | apply Kd.S_drew)); exact (Kd.S_mono (Kd.S_far (p := ⟨gb349, 0, none⟩) (Kd.S_types HO347.out BK349.out (by decide)) (fun _ hk => hk.2) (.slice Ao33 t345.length co33)) (fun _ h_ => h_.1))) hb); have n2_ := qas (blk_below (g := gb335) (o := .cells #[.slice A0_0 l0_0.length c0_0] 24 (0, 0)) (by (with_reducible repeat (first | refine qkA ?_ _ | refine qkB ?_ | refine qkC ?_ _)); refine blk_far ?_ NB335_349.out _; (with_reducible repeat (first | refine qkA ?_ _ | refine qkB ?_ | refine qkC ?_ _)); exact BK335.out) hb); have n3_ := qas (blk_below (g := gb344) (o := .cells #[.slice Ao28 t340.length co28] 24 (0, 0)) (by (with_reducible repeat (first | refine qkA ?_ _ | refine qkB ?_ | refine qkC ?_ _)); refine blk_far ?_ NB344_349.out _; (with_reducible repeat (first | refine qkA ?_ _ | refine qkB ?_ | refine qkC ?_ _)); exact BK344.out) hb); have n4_ := qas (blk_below (g := gb349) (o := .cells #[.slice Ao33 t345.length co33] 24 (0, 0)) (by (with_reducible repeat (first | refine qkA ?_ _ | refine qkB ?_ | refine qkC ?_ _)); refine blk_put (cs := #[.slice none 0 0]) ?_ 0 _ rfl; (with_reducible repeat (first | refine qkA ?_ _ | refine qkB ?_ | refine qkC ?_ _)); exact BK349.out) hb); have n5_ := qas (below_step (by repeat (first | (with_reducible first | exact HB.out | apply qbA | apply qbB | apply qbC | refine below_set ?_ GE335.out | refine below_set ?_ GE344.out | refine below_set ?_ GE349.out) | exact HB.out)) hb); clear HO342; clear HO347; clear BK335; clear BK344; clear BK349; clear HB; have HO342 := n0_; have HO347 := n1_; have BK335 := n2_; have BK344 := n3_; have BK349 := n4_; have HB := n5_; clear n0_ n1_ n2_ n3_ n4_ n5_; (try clear hb); (try clear hb2); (try clear hk); (try clear hi)) | (go_at_call 19; (with_reducible refine (portagelaw0_Num.calls t348 t352 _ A24.out).mono ?_); rintro e w' ⟨rfl, ⟨nd, rfl⟩⟩))
          go_meet
          case rel => exact ⟨_, H', ⟨by first | omega | exact Nat.le_refl _⟩, ⟨by (with_reducible repeat (first | refine qkA ?_ _ | refine qkB ?_ | refine qkC ?_ _)); exact BK335.out⟩, ⟨by repeat (first | (with_reducible first | exact HB.out | apply qbA | apply qbB | apply qbC | refine below_set ?_ GE335.out | refine below_set ?_ GE344.out | refine below_set ?_ GE349.out) | exact HB.out)⟩⟩
        ·replace c23 := Bool.eq_false_iff.mpr c23
         subst c23
         have H1 : (none) = some r := by rw [if_neg (show ¬ (false = true) by decide)] at H; exact H
         clear H
         have H := H1
         clear H1
         exact absurd H (by simp)
       ·rw [if_neg c21] at H
        exact absurd H (by simp)
      ·rw [if_neg c18] at H
       exact absurd H (by simp)
     ·rw [if_neg c17] at H
      exact absurd H (by simp)
   ·rw [if_neg c13] at H
    have c13b0 : (t339 == 0) = false := beq_eq_false_iff_ne.mpr c13
    have c13b1 : (t339 != 0) = true := bne_iff_ne.mpr c13
    (first | rw [c13b0] | (simp only [i64_w, i32_w]; rw [c13b0]) | skip)
    have H' := qas H
    clear H
    go_wp2
    go_meet
    case rel => exact ⟨_, H', ⟨by first | omega | exact Nat.le_refl _⟩, ⟨by (with_reducible repeat (first | refine qkA ?_ _ | refine qkB ?_ | refine qkC ?_ _)); exact BK335.out⟩, ⟨by repeat (first | (with_reducible first | exact HB.out | apply qbA | apply qbB | apply qbC | refine below_set ?_ GE335.out) | exact HB.out)⟩⟩
  case rest =>
   clear HC8
   try clear c1
   try clear c2
   try clear p2
   try clear c3
   try clear c5
   try clear p6
   try clear c9
   try clear c13
   try clear c13b0
   try clear c13b1
   try clear c15
   try clear c15b0
   try clear c15b1
   try clear c17
   try clear c17b0
   try clear c17b1
   try clear c18
   try clear c18b0
   try clear c18b1
   try clear c19
   try clear c21
   try clear c21b0
   try clear c21b1
   try clear c23
   try clear c25
   try clear c25b0
   try clear c25b1
   try clear c25b2
   try clear c28
   try clear c29
   try clear c31
   try clear c34
   try clear c35
   try clear hcz11_0
   try clear hcz30_0
   try clear hcz36_0
   try clear hcz37_0
   try clear hcz38_0
   try clear hfz11_0
   try clear hfz30_0
   try clear hfz36_0
   try clear hfz37_0
   try clear hfz38_0
   obtain ⟨kq, HA, HJ7, BK335, HB⟩ := hcut
   cases kq with
   | zero => exact absurd HA.out (by simp [portagelaw14_UnzipBack.j0])
   | succ kj7 =>
    have H := HA.out
    clear HA
    simp only [portagelaw14_UnzipBack.j0] at H
    replace H := Option.bind_eq_some_iff.mp H
    obtain ⟨⟨t353, t356⟩, A400, H⟩ := H
    replace H : ((portagelaw0_Num.f t356).bind fun t358 => (if t358 = 0 then ((zipput_Put.f t353).bind fun bt359 => ((portagelaw0_Num.f bt359.2).bind fun t361 => (if t361 = 0 then (some (bt359.1.toList == a1.toList)) else (none)))) else (some ((t353.length : Int) == 0)))) = some r := H
    have A40 := qas A400
    clear A400
    replace H := Option.bind_eq_some_iff.mp H
    obtain ⟨t358, A410, H⟩ := H
    replace H : (if t358 = 0 then ((zipput_Put.f t353).bind fun bt359 => ((portagelaw0_Num.f bt359.2).bind fun t361 => (if t361 = 0 then (some (bt359.1.toList == a1.toList)) else (none)))) else (some ((t353.length : Int) == 0))) = some r := H
    have A41 := qas A410
    clear A410
    by_cases c42 : t358 = 0
    ·rw [if_pos c42] at H
     have c42b0 : (t358 == 0) = true := beq_iff_eq.mpr c42
     have c42b1 : (t358 != 0) = false := bne_eq_false_iff_eq.mpr c42
     clear c42
     replace H := Option.bind_eq_some_iff.mp H
     obtain ⟨⟨t359, t360⟩, A430, H⟩ := H
     replace H : ((portagelaw0_Num.f t360).bind fun t361 => (if t361 = 0 then (some (t359.toList == a1.toList)) else (none))) = some r := H
     have A43 := qas A430
     clear A430
     replace H := Option.bind_eq_some_iff.mp H
     obtain ⟨t361, A440, H⟩ := H
     replace H : (if t361 = 0 then (some (t359.toList == a1.toList)) else (none)) = some r := H
     have A44 := qas A440
     clear A440
     by_cases c45 : t361 = 0
     ·rw [if_pos c45] at H
      have c45b0 : (t361 == 0) = true := beq_iff_eq.mpr c45
      have c45b1 : (t361 != 0) = false := bne_eq_false_iff_eq.mpr c45
      clear c45
      obtain rfl := Option.some.inj H
      go_wp2_with (first | ((with_reducible refine gate_callee (f := 28) rfl ?_); refine goesL_ (some 69) rfl rfl Tryd.func28 (by kernel_rfl) rfl #[.string a1] rfl (by (try simp only [List.map_toArray, List.map_cons, List.map_nil]); first | done | rfl | (simp only [List.length_drop, List.length_take]; rfl)) ?_; (with_reducible refine (zipget_Get.calls kj7 a1 t353 t356 _ A40.out).mono ?_); rintro e w46 ⟨v354, rfl, ho0, hb⟩; refine ⟨_, rfl, ?_⟩; have n0_ := qas (Kd.S_lower ho0 (below_size (by repeat (first | (with_reducible first | exact HB.out | apply qbA | apply qbB | apply qbC | refine below_set ?_ GE335.out) | exact HB.out)))); have n1_ := qas (blk_below (g := gb335) (o := .cells #[.slice A0_0 l0_0.length c0_0] 24 (0, 0)) (by (with_reducible repeat (first | refine qkA ?_ _ | refine qkB ?_ | refine qkC ?_ _)); exact BK335.out) hb); have n2_ := qas (below_step (by repeat (first | (with_reducible first | exact HB.out | apply qbA | apply qbB | apply qbC | refine below_set ?_ GE335.out) | exact HB.out)) hb); clear BK335; clear HB; have HO355 := n0_; have BK335 := n1_; have HB := n2_; clear n0_ n1_ n2_; (try clear hb); (try clear hb2); (try clear hk); (try clear hi); (try clear ho0)) | ((with_reducible refine gate_dst (N := 14) rfl ?_); (try (refine gate_guard (by rfl) ?_; dsimp only)); refine box_event ?hg (N := 14) ?hd (cs := #[.slice none 0 0]) (t := 24) ?hr ?_; (case hd => rfl); (case hg => rfl); (case hr => first | (go_simp; done) | (go_simp; rfl)); intro gb357 hg w47 hbox hb; have n0_ := qas (Kd.S_below (by (with_reducible repeat (first | apply Kd.S_alloc | apply Kd.S_drewN | apply Kd.S_drew)); exact HO355.out) hb); have n1_ := qas (blk_below (g := gb335) (o := .cells #[.slice A0_0 l0_0.length c0_0] 24 (0, 0)) (by (with_reducible repeat (first | refine qkA ?_ _ | refine qkB ?_ | refine qkC ?_ _)); exact BK335.out) hb); have n2_ := qas (below_step (by repeat (first | (with_reducible first | exact HB.out | apply qbA | apply qbB | apply qbC | refine below_set ?_ GE335.out) | exact HB.out)) hb); have n3_ := qas (hbox); have n4_ := qas ((by rw [hg]; exact (below_size (by repeat (first | (with_reducible first | exact HB.out | apply qbA | apply qbB | apply qbC | refine below_set ?_ GE335.out) | exact HB.out))) : w.heap.size ≤ gb357)); have n5_ := qas ((by rw [hg]; exact (below_size (by repeat (first | (with_reducible first | exact HB.out | apply qbA | apply qbB | apply qbC | refine below_set ?_ GE335.out) | exact HB.out))) : w.heap.size ≤ gb357)); have n6_ := qas ((by rw [hg]; exact Nat.ne_of_lt (blk_lt (g := gb335) (o := .cells #[.slice A0_0 l0_0.length c0_0] 24 (0, 0)) (by (with_reducible repeat (first | refine qkA ?_ _ | refine qkB ?_ | refine qkC ?_ _)); exact BK335.out)) : gb335 ≠ gb357)); have n7_ := qas ((by rw [hg]; exact Nat.ne_of_gt (blk_lt (g := gb335) (o := .cells #[.slice A0_0 l0_0.length c0_0] 24 (0, 0)) (by (with_reducible repeat (first | refine qkA ?_ _ | refine qkB ?_ | refine qkC ?_ _)); exact BK335.out)) : gb357 ≠ gb335)); clear HO355; clear BK335; clear HB; have HO355 := n0_; have BK335 := n1_; have HB := n2_; have BK357 := n3_; have GW357 := n4_; have GE357 := n5_; have NB335_357 := n6_; have NB357_335 := n7_; clear n0_ n1_ n2_ n3_ n4_ n5_ n6_ n7_; clear hb hbox hg; obtain ⟨Ao48, co48, eo48⟩ := Kd.S_slice HO355.out; subst eo48; have hnb49 := NB357_335.out; have hnc49 := NB335_357.out; have hcz50_0 : w47.cell? ⟨gb357, 0, none⟩ = some (.slice none 0 0) := (blk_cell BK357.out 0).trans rfl; have hfz50_0 := blk_frozen BK357.out 0) | ((with_reducible refine gate_callee (f := 19) rfl ?_); refine goesL_ (some 73) rfl rfl Tryd.func19 (by kernel_rfl) rfl #[.int .i64 t356] rfl (by (try simp only [List.map_toArray, List.map_cons, List.map_nil]); first | done | rfl | (simp only [List.length_drop, List.length_take]; rfl)) ?_; (with_reducible refine (portagelaw0_Num.calls t356 t358 _ A41.out).mono ?_); rintro e w' ⟨rfl, ⟨nd, rfl⟩⟩; refine ⟨_, rfl, ?_⟩) | ((with_reducible refine gate_callee (f := 17) rfl ?_); refine goesL_ (some 81) rfl rfl Tryd.func17 (by kernel_rfl) rfl #[.agg #[.slice Ao48 t353.length co48]] rfl (by (try simp only [List.map_toArray, List.map_cons, List.map_nil]); first | done | rfl | (simp only [List.length_drop, List.length_take]; rfl)) ?_; (with_reducible refine (zipput_Put.calls _ _ t353 t359 t360 _ ?side1 ?side2 A43.out).mono ?_); (case side1 => refine (Kd.S_reads' (e := 39) (base := w.heap.size) (ok := fun k_ => True) (n := t353.length) (c := co48) ?_).2.2; exact (by (with_reducible repeat (first | apply Kd.S_alloc | apply Kd.S_drewN | apply Kd.S_drew)); exact (Kd.S_mono (Kd.S_far (p := ⟨gb357, 0, none⟩) (Kd.S_types HO355.out BK357.out (by decide)) (fun _ hk => hk.2) (.slice Ao48 t353.length co48)) (fun _ h_ => h_.1)))); (case side2 => exact (Kd.S_reads' HO355.out).2.1); rintro e w51 ⟨rfl, hb⟩; refine ⟨_, rfl, ?_⟩; have n0_ := qas (Kd.S_below (by (with_reducible repeat (first | apply Kd.S_alloc | apply Kd.S_drewN | apply Kd.S_drew)); exact (Kd.S_mono (Kd.S_far (p := ⟨gb357, 0, none⟩) (Kd.S_types HO355.out BK357.out (by decide)) (fun _ hk => hk.2) (.slice Ao48 t353.length co48)) (fun _ h_ => h_.1))) hb); have n1_ := qas (blk_below (g := gb335) (o := .cells #[.slice A0_0 l0_0.length c0_0] 24 (0, 0)) (by (with_reducible repeat (first | refine qkA ?_ _ | refine qkB ?_ | refine qkC ?_ _)); refine blk_far ?_ NB335_357.out _; (with_reducible repeat (first | refine qkA ?_ _ | refine qkB ?_ | refine qkC ?_ _)); exact BK335.out) hb); have n2_ := qas (blk_below (g := gb357) (o := .cells #[.slice Ao48 t353.length co48] 24 (0, 0)) (by (with_reducible repeat (first | refine qkA ?_ _ | refine qkB ?_ | refine qkC ?_ _)); refine blk_put (cs := #[.slice none 0 0]) ?_ 0 _ rfl; (with_reducible repeat (first | refine qkA ?_ _ | refine qkB ?_ | refine qkC ?_ _)); exact BK357.out) hb); have n3_ := qas (below_step (by repeat (first | (with_reducible first | exact HB.out | apply qbA | apply qbB | apply qbC | refine below_set ?_ GE335.out | refine below_set ?_ GE357.out) | exact HB.out)) hb); clear HO355; clear BK335; clear BK357; clear HB; have HO355 := n0_; have BK335 := n1_; have BK357 := n2_; have HB := n3_; clear n0_ n1_ n2_ n3_; (try clear hb); (try clear hb2); (try clear hk); (try clear hi)) | ((with_reducible refine gate_callee (f := 19) rfl ?_); refine goesL_ (some 85) rfl rfl Tryd.func19 (by kernel_rfl) rfl #[.int .i64 t360] rfl (by (try simp only [List.map_toArray, List.map_cons, List.map_nil]); first | done | rfl | (simp only [List.length_drop, List.length_take]; rfl)) ?_; (with_reducible refine (portagelaw0_Num.calls t360 t361 _ A44.out).mono ?_); rintro e w' ⟨rfl, ⟨nd, rfl⟩⟩; refine ⟨_, rfl, ?_⟩))
      go_ret
      exact ⟨by first | rfl | (simp [errW_none, errW_some] <;> rfl) | (simp [*, errW_none, errW_some] <;> rfl), by repeat (first | (with_reducible first | exact HB.out | apply qbA | apply qbB | apply qbC | refine below_set ?_ GE335.out | refine below_set ?_ GE357.out) | exact HB.out)⟩
     ·rw [if_neg c45] at H
      exact absurd H (by simp)
    ·rw [if_neg c42] at H
     have c42b0 : (t358 == 0) = false := beq_eq_false_iff_ne.mpr c42
     have c42b1 : (t358 != 0) = true := bne_iff_ne.mpr c42
     obtain rfl := Option.some.inj H
     go_wp2_with (first | ((with_reducible refine gate_callee (f := 28) rfl ?_); refine goesL_ (some 69) rfl rfl Tryd.func28 (by kernel_rfl) rfl #[.string a1] rfl (by (try simp only [List.map_toArray, List.map_cons, List.map_nil]); first | done | rfl | (simp only [List.length_drop, List.length_take]; rfl)) ?_; (with_reducible refine (zipget_Get.calls kj7 a1 t353 t356 _ A40.out).mono ?_); rintro e w52 ⟨v354, rfl, ho0, hb⟩; refine ⟨_, rfl, ?_⟩; have n0_ := qas (Kd.S_lower ho0 (below_size (by repeat (first | (with_reducible first | exact HB.out | apply qbA | apply qbB | apply qbC | refine below_set ?_ GE335.out) | exact HB.out)))); have n1_ := qas (blk_below (g := gb335) (o := .cells #[.slice A0_0 l0_0.length c0_0] 24 (0, 0)) (by (with_reducible repeat (first | refine qkA ?_ _ | refine qkB ?_ | refine qkC ?_ _)); exact BK335.out) hb); have n2_ := qas (below_step (by repeat (first | (with_reducible first | exact HB.out | apply qbA | apply qbB | apply qbC | refine below_set ?_ GE335.out) | exact HB.out)) hb); clear BK335; clear HB; have HO355 := n0_; have BK335 := n1_; have HB := n2_; clear n0_ n1_ n2_; (try clear hb); (try clear hb2); (try clear hk); (try clear hi); (try clear ho0)) | ((with_reducible refine gate_dst (N := 14) rfl ?_); (try (refine gate_guard (by rfl) ?_; dsimp only)); refine box_event ?hg (N := 14) ?hd (cs := #[.slice none 0 0]) (t := 24) ?hr ?_; (case hd => rfl); (case hg => rfl); (case hr => first | (go_simp; done) | (go_simp; rfl)); intro gb357 hg w53 hbox hb; have n0_ := qas (Kd.S_below (by (with_reducible repeat (first | apply Kd.S_alloc | apply Kd.S_drewN | apply Kd.S_drew)); exact HO355.out) hb); have n1_ := qas (blk_below (g := gb335) (o := .cells #[.slice A0_0 l0_0.length c0_0] 24 (0, 0)) (by (with_reducible repeat (first | refine qkA ?_ _ | refine qkB ?_ | refine qkC ?_ _)); exact BK335.out) hb); have n2_ := qas (below_step (by repeat (first | (with_reducible first | exact HB.out | apply qbA | apply qbB | apply qbC | refine below_set ?_ GE335.out) | exact HB.out)) hb); have n3_ := qas (hbox); have n4_ := qas ((by rw [hg]; exact (below_size (by repeat (first | (with_reducible first | exact HB.out | apply qbA | apply qbB | apply qbC | refine below_set ?_ GE335.out) | exact HB.out))) : w.heap.size ≤ gb357)); have n5_ := qas ((by rw [hg]; exact (below_size (by repeat (first | (with_reducible first | exact HB.out | apply qbA | apply qbB | apply qbC | refine below_set ?_ GE335.out) | exact HB.out))) : w.heap.size ≤ gb357)); have n6_ := qas ((by rw [hg]; exact Nat.ne_of_lt (blk_lt (g := gb335) (o := .cells #[.slice A0_0 l0_0.length c0_0] 24 (0, 0)) (by (with_reducible repeat (first | refine qkA ?_ _ | refine qkB ?_ | refine qkC ?_ _)); exact BK335.out)) : gb335 ≠ gb357)); have n7_ := qas ((by rw [hg]; exact Nat.ne_of_gt (blk_lt (g := gb335) (o := .cells #[.slice A0_0 l0_0.length c0_0] 24 (0, 0)) (by (with_reducible repeat (first | refine qkA ?_ _ | refine qkB ?_ | refine qkC ?_ _)); exact BK335.out)) : gb357 ≠ gb335)); clear HO355; clear BK335; clear HB; have HO355 := n0_; have BK335 := n1_; have HB := n2_; have BK357 := n3_; have GW357 := n4_; have GE357 := n5_; have NB335_357 := n6_; have NB357_335 := n7_; clear n0_ n1_ n2_ n3_ n4_ n5_ n6_ n7_; clear hb hbox hg; obtain ⟨Ao54, co54, eo54⟩ := Kd.S_slice HO355.out; subst eo54; have hnb55 := NB357_335.out; have hnc55 := NB335_357.out; have hcz56_0 : w53.cell? ⟨gb357, 0, none⟩ = some (.slice none 0 0) := (blk_cell BK357.out 0).trans rfl; have hfz56_0 := blk_frozen BK357.out 0) | ((with_reducible refine gate_callee (f := 19) rfl ?_); refine goesL_ (some 73) rfl rfl Tryd.func19 (by kernel_rfl) rfl #[.int .i64 t356] rfl (by (try simp only [List.map_toArray, List.map_cons, List.map_nil]); first | done | rfl | (simp only [List.length_drop, List.length_take]; rfl)) ?_; (with_reducible refine (portagelaw0_Num.calls t356 t358 _ A41.out).mono ?_); rintro e w' ⟨rfl, ⟨nd, rfl⟩⟩; refine ⟨_, rfl, ?_⟩))
     go_ret
     exact ⟨by first | rfl | (simp [errW_none, errW_some] <;> rfl) | (simp [*, errW_none, errW_some] <;> rfl), by repeat (first | (with_reducible first | exact HB.out | apply qbA | apply qbB | apply qbC | refine below_set ?_ GE335.out | refine below_set ?_ GE357.out) | exact HB.out)⟩
 ·replace c5 := Bool.eq_false_iff.mpr c5
  subst c5
  have H1 : (none) = some r := by rw [if_neg (show ¬ (false = true) by decide)] at H; exact H
  clear H
  have H := H1
  clear H1
  exact absurd H (by simp)

end Go.Proofs.YtneogampbohfnaaDoor.ZG
