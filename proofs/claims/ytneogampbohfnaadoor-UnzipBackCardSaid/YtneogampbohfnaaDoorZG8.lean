-- Written by a program of this session out of the translation (a changed copy of the kit's printer).
import Derived.Test.YtneogampbohfnaaDoorZG0
import Derived.Test.YtneogampbohfnaaDoorZG6
import Derived.Test.YtneogampbohfnaaDoorZG7
namespace Go.Proofs.YtneogampbohfnaaDoor.ZG
open Go.Proofs.YtneogampbohfnaaDoor.ZB (S39 z39 k39 k39_open k39_openM k39_mk k39_mkM rd_T39 at_T39)
open Go.RowKit Go.Proofs.YtneogampbohfnaaDoorW.PrintWords Go.Proofs.YtneogampbohfnaaDoorW.PrintLast Go.Proofs.YtneogampbohfnaaDoorW.PrintMore
attribute [local go_sem] max2_int min2_int max_two min_two max_three min_three max_four min_four   -- for this text's walks alone
set_option linter.unusedVariables false
set_option linter.unusedSimpArgs false

/-! ### zipget_Get: function 28 -/
def zipget_Get.l0 : Nat → ByteArray → ByteArray → Bool → List (S39) → Option ((List (S39)) × Int)
 | 0, _, _, _, _ => none
 | k + 1, x0, x213000, x213001, x214000 => (strings_HasPrefix.f x213000 (⟨#[80, 75, 3, 4]⟩ : ByteArray)).bind fun t214 => (if t214 = true then (if x213001 = true then ((zipput_Put.f x214000).bind fun bt215 => (some (([] : List (S39)), 1400))) else (if (x214000.length : Int) < 6 then ((zipget_entry.f k x213000 x213001).bind fun bt217 => (if x214000.length < 1353245080339 then (zipget_Get.l0 k x0 bt217.2.2.2.2.2.2.2.2.2.1 bt217.2.2.2.2.2.2.2.2.2.2 (x214000 ++ [(⟨bt217.1, bt217.2.1, bt217.2.2.1, bt217.2.2.2.1, bt217.2.2.2.2.1, bt217.2.2.2.2.2.1, bt217.2.2.2.2.2.2.1, bt217.2.2.2.2.2.2.2.1, bt217.2.2.2.2.2.2.2.2.1⟩ : S39)])) else (none))) else ((zipput_Put.f x214000).bind fun bt233 => (if bt233.2 = 0 then (if bt233.1.toList = x0.toList then (some (x214000, 0)) else (some (([] : List (S39)), 1400))) else (some (([] : List (S39)), 1400)))))) else ((zipput_Put.f x214000).bind fun bt235 => (if x213001 = true then (some (([] : List (S39)), 1400)) else (if bt235.2 = 0 then (if bt235.1.toList = x0.toList then (some (x214000, 0)) else (some (([] : List (S39)), 1400))) else (some (([] : List (S39)), 1400))))))
def zipget_Get.f (k : Nat) (a0 : ByteArray) : Option ((List (S39)) × Int) := zipget_Get.l0 k a0 a0 false ([] : List (S39))
theorem zipget_Get.mono_l : ∀ k, (∀ y0 y1 y2 y3, LeO (zipget_Get.l0 k y0 y1 y2 y3) (zipget_Get.l0 (k + 1) y0 y1 y2 y3))
 | 0 => fun _ _ _ _ r h => by simp [zipget_Get.l0] at h
 | k + 1 => by
  have ih0 := zipget_Get.mono_l k
  ·intro y0 y1 y2 y3
   unfold zipget_Get.l0
   repeat' first
   | (with_reducible exact ih0 _ _ _ _)
   | (with_reducible exact zipget_entry.mono _ _ _)
   | (with_reducible exact LeO.refl _)
   | (with_reducible exact LeO.none _)
   | (with_reducible refine LeO.ite ?_ ?_)
   | (with_reducible refine LeO.bind ?_ (fun _ => ?_))
   | exact ih0 _ _ _ _
   | exact zipget_entry.mono _ _ _
   | exact LeO.none _
   | refine LeO.ite ?_ ?_
   | refine LeO.bind ?_ (fun _ => ?_)
theorem zipget_Get.mono : ∀ a0 k, LeO (zipget_Get.f k a0) (zipget_Get.f (k + 1) a0) := by
 intro a0 k
 have ih0 := zipget_Get.mono_l k
 unfold zipget_Get.f
 repeat' first
   | (with_reducible exact ih0 _ _ _ _)
   | (with_reducible exact zipget_entry.mono _ _ _)
   | (with_reducible exact LeO.refl _)
   | (with_reducible exact LeO.none _)
   | (with_reducible refine LeO.ite ?_ ?_)
   | (with_reducible refine LeO.bind ?_ (fun _ => ?_))
   | exact ih0 _ _ _ _
   | exact zipget_entry.mono _ _ _
   | exact LeO.none _
   | refine LeO.ite ?_ ?_
   | refine LeO.bind ?_ (fun _ => ?_)
def zipget_Get.T4 : Bool × List (List Nat × List Nat) := (true, [([], []), ([0], [0]), ([], []), ([2], [2]), ([3], [3]), ([1, 4, 3], [1, 4]), ([0, 1, 2, 3, 4, 5], []), ([6, 5, 5, 0, 1, 2, 3, 4, 5], [5, 6])])
def zipget_Get.B4 : List Nat := [0, 1, 0, 4, 12, 31, 63, 127]
theorem zipget_Get.tab4 : rtab .any (opsOf Tryd.f28 4) = zipget_Get.T4 := by kernel_rfl
theorem zipget_Get.bits4 : waitsOk zipget_Get.T4.2 zipget_Get.B4 = true := by kernel_rfl
set_option maxHeartbeats 8000000 in
set_option maxRecDepth 100000 in
theorem zipget_Get.calls (k : Nat) (a0 : ByteArray) (r1 : List (S39)) (r2 : Int) (w : World) (h : zipget_Get.f k a0 = some (r1, r2)) :
  Calls Tryd.prog 28 #[.string a0] w fun e w' => ∃ v0_ : Value, e = .returned (.tuple #[.agg #[v0_], .int .i64 r2]) ∧ Kd.S k39 39 w' w.heap.size (fun _ => True) v0_ r1 ∧ Below w.heap.size w w' := by
 have hu24 := Tryd.underlying24
 have hu94 := Tryd.underlying94
 have HB := qas (Below.refl w.heap.size w)
 have H : (zipget_Get.l0 k a0 a0 false ([] : List (S39))) = some (r1, r2) := h
 clear h
 have H' := qas H
 clear H
 go_enter Tryd.func28, Tryd.ntmps28
 go_wp2_with (first | ((with_reducible refine gate_dst (N := 2) rfl ?_); (try (refine gate_guard (by rfl) ?_; dsimp only)); refine box_event ?hg (N := 2) ?hd (cs := #[.slice none 0 0]) (t := 24) ?hr ?_; (case hd => rfl); (case hg => rfl); (case hr => first | (go_simp; done) | (go_simp; rfl)); intro gb211 hg w2 hbox hb; have n0_ := qas (below_step (by repeat (first | (with_reducible first | exact HB.out | apply qbA | apply qbB | apply qbC) | exact HB.out)) hb); have n1_ := qas (hbox); have n2_ := qas ((by rw [hg]; exact (below_size (by repeat (first | (with_reducible first | exact HB.out | apply qbA | apply qbB | apply qbC) | exact HB.out))) : w.heap.size ≤ gb211)); have n3_ := qas ((by rw [hg]; exact (below_size (by repeat (first | (with_reducible first | exact HB.out | apply qbA | apply qbB | apply qbC) | exact HB.out))) : w.heap.size ≤ gb211)); clear HB; have HB := n0_; have BK211 := n1_; have GW211 := n2_; have GE211 := n3_; clear n0_ n1_ n2_ n3_; clear hb hbox hg) | ((with_reducible refine gate_dst (N := 10) rfl ?_); (try (refine gate_guard (by rfl) ?_; dsimp only)); refine box_event ?hg (N := 10) ?hd (cs := #[.string a0, .bool false]) (t := 94) ?hr ?_; (case hd => rfl); (case hg => rfl); (case hr => first | (go_simp; done) | (go_simp; rfl)); intro gb212 hg w3 hbox hb; have n0_ := qas (blk_below (g := gb211) (o := .cells #[.slice none 0 0] 24 (0, 0)) (by (with_reducible repeat (first | refine qkA ?_ _ | refine qkB ?_ | refine qkC ?_ _)); exact BK211.out) hb); have n1_ := qas (below_step (by repeat (first | (with_reducible first | exact HB.out | apply qbA | apply qbB | apply qbC | refine below_set ?_ GE211.out) | exact HB.out)) hb); have n2_ := qas (hbox); have n3_ := qas ((by rw [hg]; exact (below_size (by repeat (first | (with_reducible first | exact HB.out | apply qbA | apply qbB | apply qbC | refine below_set ?_ GE211.out) | exact HB.out))) : w.heap.size ≤ gb212)); have n4_ := qas ((by rw [hg]; exact (below_size (by repeat (first | (with_reducible first | exact HB.out | apply qbA | apply qbB | apply qbC | refine below_set ?_ GE211.out) | exact HB.out))) : w.heap.size ≤ gb212)); have n5_ := qas ((by rw [hg]; exact Nat.ne_of_lt (blk_lt (g := gb211) (o := .cells #[.slice none 0 0] 24 (0, 0)) (by (with_reducible repeat (first | refine qkA ?_ _ | refine qkB ?_ | refine qkC ?_ _)); exact BK211.out)) : gb211 ≠ gb212)); have n6_ := qas ((by rw [hg]; exact Nat.ne_of_gt (blk_lt (g := gb211) (o := .cells #[.slice none 0 0] 24 (0, 0)) (by (with_reducible repeat (first | refine qkA ?_ _ | refine qkB ?_ | refine qkC ?_ _)); exact BK211.out)) : gb212 ≠ gb211)); clear BK211; clear HB; have BK211 := n0_; have HB := n1_; have BK212 := n2_; have GW212 := n3_; have GE212 := n4_; have NB211_212 := n5_; have NB212_211 := n6_; clear n0_ n1_ n2_ n3_ n4_ n5_ n6_; clear hb hbox hg; have HI212 := qas (show IsS94 w w3 gb212 a0 false from ⟨BK212.out, GE212.out⟩); clear BK212) | ((with_reducible refine gate_dst (N := 5) rfl ?_); (try (refine gate_guard (by rfl) ?_; dsimp only)); refine box_event ?hg (N := 5) ?hd (cs := #[.slice none 0 0]) (t := 24) ?hr ?_; (case hd => rfl); (case hg => rfl); (case hr => first | (go_simp; done) | (go_simp; rfl)); intro gb213 hg w4 hbox hb; have n0_ := qas (blk_below (g := gb211) (o := .cells #[.slice none 0 0] 24 (0, 0)) (by (with_reducible repeat (first | refine qkA ?_ _ | refine qkB ?_ | refine qkC ?_ _)); exact BK211.out) hb); have n1_ := qas (IsS94.below (by repeat (first | (with_reducible first | exact HI212.out | apply IsS94.alloc | apply IsS94.drewN | apply IsS94.drew | apply IsS94.set_0 | apply IsS94.set_1 | apply IsS94.farB (hne := NB212_211.out)) | exact HI212.out)) hb); have n2_ := qas (below_step (by repeat (first | (with_reducible first | exact HB.out | apply qbA | apply qbB | apply qbC | refine below_set ?_ (IsS94.ge HI212.out) | refine below_set ?_ GE211.out) | exact HB.out)) hb); have n3_ := qas (hbox); have n4_ := qas ((by rw [hg]; exact (below_size (by repeat (first | (with_reducible first | exact HB.out | apply qbA | apply qbB | apply qbC | refine below_set ?_ (IsS94.ge HI212.out) | refine below_set ?_ GE211.out) | exact HB.out))) : w.heap.size ≤ gb213)); have n5_ := qas ((by rw [hg]; exact (below_size (by repeat (first | (with_reducible first | exact HB.out | apply qbA | apply qbB | apply qbC | refine below_set ?_ (IsS94.ge HI212.out) | refine below_set ?_ GE211.out) | exact HB.out))) : w.heap.size ≤ gb213)); have n6_ := qas ((by rw [hg]; exact Nat.ne_of_lt (blk_lt (g := gb211) (o := .cells #[.slice none 0 0] 24 (0, 0)) (by (with_reducible repeat (first | refine qkA ?_ _ | refine qkB ?_ | refine qkC ?_ _)); exact BK211.out)) : gb211 ≠ gb213)); have n7_ := qas ((by rw [hg]; exact Nat.ne_of_gt (blk_lt (g := gb211) (o := .cells #[.slice none 0 0] 24 (0, 0)) (by (with_reducible repeat (first | refine qkA ?_ _ | refine qkB ?_ | refine qkC ?_ _)); exact BK211.out)) : gb213 ≠ gb211)); have n8_ := qas ((by rw [hg]; exact Nat.ne_of_lt (IsS94.lt (show IsS94 w _ gb212 a0 false from by repeat (first | (with_reducible first | exact HI212.out | apply IsS94.alloc | apply IsS94.drewN | apply IsS94.drew | apply IsS94.set_0 | apply IsS94.set_1 | apply IsS94.farB (hne := NB212_211.out)) | exact HI212.out))) : gb212 ≠ gb213)); have n9_ := qas ((by rw [hg]; exact Nat.ne_of_gt (IsS94.lt (show IsS94 w _ gb212 a0 false from by repeat (first | (with_reducible first | exact HI212.out | apply IsS94.alloc | apply IsS94.drewN | apply IsS94.drew | apply IsS94.set_0 | apply IsS94.set_1 | apply IsS94.farB (hne := NB212_211.out)) | exact HI212.out))) : gb213 ≠ gb212)); clear BK211; clear HI212; clear HB; have BK211 := n0_; have HI212 := n1_; have HB := n2_; have BK213 := n3_; have GW213 := n4_; have GE213 := n5_; have NB211_213 := n6_; have NB213_211 := n7_; have NB212_213 := n8_; have NB213_212 := n9_; clear n0_ n1_ n2_ n3_ n4_ n5_ n6_ n7_ n8_ n9_; clear hb hbox hg))
 (try simp only [Act.put, qsA, qsB, qsC])
 go_loopg [] k (fun kq w' => ∃ (x213000_1 : ByteArray) (x213001_1 : Bool) (x214000_1 : List (S39)) (u214000 : Value), Aside0 (zipget_Get.l0 kq a0 x213000_1 x213001_1 x214000_1 = some (r1, r2)) ∧ Aside0 (kq ≤ k) ∧ Aside0 (Kd.S k39 39 w' w.heap.size (fun _ => True) u214000 x214000_1) ∧ Aside0 (w'.heap[gb211]? = some (.cells #[(.slice none 0 0)] 24 (0, 0))) ∧ Aside0 (w'.heap[gb213]? = some (.cells #[u214000] 24 (0, 0))) ∧ Aside0 (IsS94 w w' gb212 x213000_1 x213001_1) ∧ Aside0 (Below w.heap.size w w'))
 case atStart => exact ⟨(a0), (false), (([] : List (S39))), (.slice none 0 0), H', ⟨Nat.le_refl _⟩, ⟨by first | exact Kd.S_nil _ _ _ _ _ | exact Kd.N_nil _ _ _ _ _ | exact Kd.V_nil _ _ _ _ _ | exact Kd.Q_nil _ _ _ _ _ | exact Kd.R_nil _ _ _ _ _⟩, ⟨by (with_reducible repeat (first | refine qkA ?_ _ | refine qkB ?_ | refine qkC ?_ _)); exact BK211.out⟩, ⟨by (with_reducible repeat (first | refine qkA ?_ _ | refine qkB ?_ | refine qkC ?_ _)); exact BK213.out⟩, ⟨by repeat (first | (with_reducible first | exact HI212.out | apply IsS94.alloc | apply IsS94.drewN | apply IsS94.drew | apply IsS94.set_0 | apply IsS94.set_1 | apply IsS94.farB (hne := NB212_211.out) | apply IsS94.farB (hne := NB212_213.out)) | exact HI212.out)⟩, ⟨by repeat (first | (with_reducible first | exact HB.out | apply qbA | apply qbB | apply qbC | refine below_set ?_ (IsS94.ge HI212.out) | refine below_set ?_ GE211.out | refine below_set ?_ GE213.out) | exact HB.out)⟩⟩
 case round =>
  clear H'
  try clear c2
  try clear p2
  obtain ⟨x213000_1, x213001_1, x214000_1, u214000, HA, HK1, HO_214000, BK211, BK213, HI212, HB⟩ := hrel
  cases gk with
  | zero => exact absurd HA.out (by simp [zipget_Get.l0])
  | succ k1 =>
   have H := HA.out
   clear HA
   simp only [zipget_Get.l0] at H
   replace H := Option.bind_eq_some_iff.mp H
   obtain ⟨t214, A50, H⟩ := H
   replace H : (if t214 = true then (if x213001_1 = true then ((zipput_Put.f x214000_1).bind fun bt215 => (some (([] : List (S39)), 1400))) else (if (x214000_1.length : Int) < 6 then ((zipget_entry.f k1 x213000_1 x213001_1).bind fun bt217 => (if x214000_1.length < 1353245080339 then (zipget_Get.l0 k1 a0 bt217.2.2.2.2.2.2.2.2.2.1 bt217.2.2.2.2.2.2.2.2.2.2 (x214000_1 ++ [(⟨bt217.1, bt217.2.1, bt217.2.2.1, bt217.2.2.2.1, bt217.2.2.2.2.1, bt217.2.2.2.2.2.1, bt217.2.2.2.2.2.2.1, bt217.2.2.2.2.2.2.2.1, bt217.2.2.2.2.2.2.2.2.1⟩ : S39)])) else (none))) else ((zipput_Put.f x214000_1).bind fun bt233 => (if bt233.2 = 0 then (if bt233.1.toList = a0.toList then (some (x214000_1, 0)) else (some (([] : List (S39)), 1400))) else (some (([] : List (S39)), 1400)))))) else ((zipput_Put.f x214000_1).bind fun bt235 => (if x213001_1 = true then (some (([] : List (S39)), 1400)) else (if bt235.2 = 0 then (if bt235.1.toList = a0.toList then (some (x214000_1, 0)) else (some (([] : List (S39)), 1400))) else (some (([] : List (S39)), 1400)))))) = some (r1, r2) := H
   have A5 := qas A50
   clear A50
   by_cases c6 : t214 = true
   ·subst c6
    have H1 : (if x213001_1 = true then ((zipput_Put.f x214000_1).bind fun bt215 => (some (([] : List (S39)), 1400))) else (if (x214000_1.length : Int) < 6 then ((zipget_entry.f k1 x213000_1 x213001_1).bind fun bt217 => (if x214000_1.length < 1353245080339 then (zipget_Get.l0 k1 a0 bt217.2.2.2.2.2.2.2.2.2.1 bt217.2.2.2.2.2.2.2.2.2.2 (x214000_1 ++ [(⟨bt217.1, bt217.2.1, bt217.2.2.1, bt217.2.2.2.1, bt217.2.2.2.2.1, bt217.2.2.2.2.2.1, bt217.2.2.2.2.2.2.1, bt217.2.2.2.2.2.2.2.1, bt217.2.2.2.2.2.2.2.2.1⟩ : S39)])) else (none))) else ((zipput_Put.f x214000_1).bind fun bt233 => (if bt233.2 = 0 then (if bt233.1.toList = a0.toList then (some (x214000_1, 0)) else (some (([] : List (S39)), 1400))) else (some (([] : List (S39)), 1400)))))) = some (r1, r2) := by rw [if_pos rfl] at H; exact H
    clear H
    have H := H1
    clear H1
    by_cases c7 : x213001_1 = true
    ·subst c7
     have H1 : ((zipput_Put.f x214000_1).bind fun bt215 => (some (([] : List (S39)), 1400))) = some (r1, r2) := by rw [if_pos rfl] at H; exact H
     clear H
     have H := H1
     clear H1
     replace H := Option.bind_eq_some_iff.mp H
     obtain ⟨⟨t215, t216⟩, A80, H⟩ := H
     replace H : (some (([] : List (S39)), 1400)) = some (r1, r2) := H
     have A8 := qas A80
     clear A80
     simp only [Option.some.injEq, Prod.mk.injEq] at H
     obtain ⟨rfl, rfl⟩ := H
     obtain ⟨HGz9, hgz9⟩ := HI212.out
     have hcz9_0 := cellS94_0 HGz9
     have hcz9_1 := cellS94_1 HGz9
     have hfz9_0 := blk_frozen HGz9 0
     have hfz9_1 := blk_frozen HGz9 1
     clear HGz9 hgz9
     go_wp2_with (first | ((with_reducible refine gate_callee (f := 61) rfl ?_); refine goesL_ (some 15) rfl rfl Tryd.func61 (by kernel_rfl) rfl #[.string x213000_1, .string (⟨#[80, 75, 3, 4]⟩ : ByteArray)] rfl (by (try simp only [List.map_toArray, List.map_cons, List.map_nil]); first | done | rfl | (simp only [List.length_drop, List.length_take]; rfl)) ?_; (with_reducible refine (strings_HasPrefix.calls x213000_1 (⟨#[80, 75, 3, 4]⟩ : ByteArray) true _ A5.out).mono ?_); rintro e w' ⟨rfl, ⟨nd, rfl⟩⟩; refine ⟨_, rfl, ?_⟩; (try (rw [drewN_self wr]; generalize hq_ : World.drewN wr _ = wr; have n0_ : Aside0 (Kd.S k39 39 wr w.heap.size (fun _ => True) u214000 x214000_1) := ⟨by rw [← hq_]; exact (by (with_reducible repeat (first | apply Kd.S_alloc | apply Kd.S_drewN | apply Kd.S_drew)); exact HO_214000.out)⟩; have n1_ : Aside0 (wr.heap[gb211]? = some (.cells #[.slice none 0 0] 24 (0, 0))) := ⟨by rw [← hq_]; exact (by (with_reducible repeat (first | refine qkA ?_ _ | refine qkB ?_ | refine qkC ?_ _)); exact BK211.out)⟩; have n2_ : Aside0 (wr.heap[gb213]? = some (.cells #[u214000] 24 (0, 0))) := ⟨by rw [← hq_]; exact (by (with_reducible repeat (first | refine qkA ?_ _ | refine qkB ?_ | refine qkC ?_ _)); exact BK213.out)⟩; have n3_ : Aside0 (IsS94 w wr gb212 x213000_1 true) := ⟨by rw [← hq_]; exact (by repeat (first | (with_reducible first | exact HI212.out | apply IsS94.alloc | apply IsS94.drewN | apply IsS94.drew | apply IsS94.set_0 | apply IsS94.set_1 | apply IsS94.farB (hne := NB212_211.out) | apply IsS94.farB (hne := NB212_213.out)) | exact HI212.out))⟩; have n4_ : Aside0 (Below w.heap.size w wr) := ⟨by rw [← hq_]; exact (by repeat (first | (with_reducible first | exact HB.out | apply qbA | apply qbB | apply qbC | refine below_set ?_ (IsS94.ge HI212.out) | refine below_set ?_ GE211.out | refine below_set ?_ GE213.out) | exact HB.out))⟩; clear HO_214000 BK211 BK213 HI212 HB hq_; have HO_214000 := n0_; have BK211 := n1_; have BK213 := n2_; have HI212 := n3_; have HB := n4_; clear n0_ n1_ n2_ n3_ n4_)); (try (obtain ⟨HGy, hgy⟩ := HI212.out; have hcy0 := cellS94_0 HGy; have hfy0 := blk_frozen HGy 0; have hcy1 := cellS94_1 HGy; have hfy1 := blk_frozen HGy 1; clear HGy hgy)); have hnb10 := NB213_211.out; have hnc10 := NB211_213.out; have hnb11 := NB213_212.out; have hnc11 := NB212_213.out; have hcz12_0 : wr.cell? ⟨gb213, 0, none⟩ = some (u214000) := (blk_cell BK213.out 0).trans rfl; have hfz12_0 := blk_frozen BK213.out 0; obtain ⟨Ao13, co13, eo13⟩ := Kd.S_slice HO_214000.out; subst eo13) | ((with_reducible refine gate_callee (f := 17) rfl ?_); refine goesL_ (some 38) rfl rfl Tryd.func17 (by kernel_rfl) rfl #[.agg #[.slice Ao13 x214000_1.length co13]] rfl (by (try simp only [List.map_toArray, List.map_cons, List.map_nil]); first | done | rfl | (simp only [List.length_drop, List.length_take]; rfl)) ?_; (with_reducible refine (zipput_Put.calls _ _ x214000_1 t215 t216 _ ?side1 ?side2 A8.out).mono ?_); (case side1 => repeat (first | exact (Kd.S_reads' HO_214000.out).2.2 | (with_reducible refine Kd.C_alloc ?_ _) | (with_reducible refine Kd.C_drewN ?_ _) | (with_reducible refine Kd.C_drew ?_))); (case side2 => exact (Kd.S_reads' HO_214000.out).2.1); rintro e w14 ⟨rfl, hb⟩; refine ⟨_, rfl, ?_⟩; have n0_ := qas (Kd.S_below (by (with_reducible repeat (first | apply Kd.S_alloc | apply Kd.S_drewN | apply Kd.S_drew)); exact HO_214000.out) hb); have n1_ := qas (blk_below (g := gb211) (o := .cells #[.slice none 0 0] 24 (0, 0)) (by (with_reducible repeat (first | refine qkA ?_ _ | refine qkB ?_ | refine qkC ?_ _)); exact BK211.out) hb); have n2_ := qas (blk_below (g := gb213) (o := .cells #[.slice Ao13 x214000_1.length co13] 24 (0, 0)) (by (with_reducible repeat (first | refine qkA ?_ _ | refine qkB ?_ | refine qkC ?_ _)); exact BK213.out) hb); have n3_ := qas (IsS94.below (by repeat (first | (with_reducible first | exact HI212.out | apply IsS94.alloc | apply IsS94.drewN | apply IsS94.drew | apply IsS94.set_0 | apply IsS94.set_1 | apply IsS94.farB (hne := NB212_211.out) | apply IsS94.farB (hne := NB212_213.out)) | exact HI212.out)) hb); have n4_ := qas (below_step (by repeat (first | (with_reducible first | exact HB.out | apply qbA | apply qbB | apply qbC | refine below_set ?_ (IsS94.ge HI212.out) | refine below_set ?_ GE211.out | refine below_set ?_ GE213.out) | exact HB.out)) hb); clear HO_214000; clear BK211; clear BK213; clear HI212; clear HB; have HO_214000 := n0_; have BK211 := n1_; have BK213 := n2_; have HI212 := n3_; have HB := n4_; clear n0_ n1_ n2_ n3_ n4_; (try clear hb); (try clear hb2); (try clear hk); (try clear hi); obtain ⟨HGz15, hgz15⟩ := HI212.out; have hcz15_0 := cellS94_0 HGz15; have hcz15_1 := cellS94_1 HGz15; have hfz15_0 := blk_frozen HGz15 0; have hfz15_1 := blk_frozen HGz15 1; clear HGz15 hgz15; have hnb16 := NB211_212.out; have hnc16 := NB212_211.out; have hcz17_0 : w14.cell? ⟨gb211, 0, none⟩ = some (.slice none 0 0) := (blk_cell BK211.out 0).trans rfl; have hfz17_0 := blk_frozen BK211.out 0))
     refine bodyPost_ret (results_ct rfl _ _ gb211 24 #[.slice none 0 0] (0, 0) _ rfl (by (with_reducible repeat (first | refine qkA ?_ _ | refine qkB ?_ | refine qkC ?_ _)); refine blk_put (cs := #[.slice none 0 0]) ?_ 0 _ rfl; (with_reducible repeat (first | refine qkA ?_ _ | refine qkB ?_ | refine qkC ?_ _)); exact BK211.out) Tryd.underlying24 rfl (by kernel_rfl)) rfl ?_
     exact ⟨_, by first | rfl | (simp [errW_none, errW_some] <;> rfl) | (simp [*, errW_none, errW_some] <;> rfl), by first | exact Kd.S_nil _ _ _ _ _ | exact Kd.N_nil _ _ _ _ _ | exact Kd.V_nil _ _ _ _ _ | exact Kd.Q_nil _ _ _ _ _ | exact Kd.R_nil _ _ _ _ _, by repeat (first | (with_reducible first | exact HB.out | apply qbA | apply qbB | apply qbC | refine below_set ?_ (IsS94.ge HI212.out) | refine below_set ?_ GE211.out | refine below_set ?_ GE213.out) | exact HB.out)⟩
    ·replace c7 := Bool.eq_false_iff.mpr c7
     subst c7
     have H1 : (if (x214000_1.length : Int) < 6 then ((zipget_entry.f k1 x213000_1 false).bind fun bt217 => (if x214000_1.length < 1353245080339 then (zipget_Get.l0 k1 a0 bt217.2.2.2.2.2.2.2.2.2.1 bt217.2.2.2.2.2.2.2.2.2.2 (x214000_1 ++ [(⟨bt217.1, bt217.2.1, bt217.2.2.1, bt217.2.2.2.1, bt217.2.2.2.2.1, bt217.2.2.2.2.2.1, bt217.2.2.2.2.2.2.1, bt217.2.2.2.2.2.2.2.1, bt217.2.2.2.2.2.2.2.2.1⟩ : S39)])) else (none))) else ((zipput_Put.f x214000_1).bind fun bt233 => (if bt233.2 = 0 then (if bt233.1.toList = a0.toList then (some (x214000_1, 0)) else (some (([] : List (S39)), 1400))) else (some (([] : List (S39)), 1400))))) = some (r1, r2) := by rw [if_neg (show ¬ (false = true) by decide)] at H; exact H
     clear H
     have H := H1
     clear H1
     by_cases c18 : (x214000_1.length : Int) < 6
     ·rw [if_pos c18] at H
      have c18b0 : decide ((x214000_1.length : Int) < 6) = true := decide_eq_true c18
      have c18b1 : decide (x214000_1.length < 6) = true := decide_eq_true (by omega)
      clear c18
      replace H := Option.bind_eq_some_iff.mp H
      obtain ⟨⟨t217, t218, t219, t222, t223, t224, t225, t226, t227, t228, t229⟩, A190, H⟩ := H
      replace H : (if x214000_1.length < 1353245080339 then (zipget_Get.l0 k1 a0 t228 t229 (x214000_1 ++ [(⟨t217, t218, t219, t222, t223, t224, t225, t226, t227⟩ : S39)])) else (none)) = some (r1, r2) := H
      have A19 := qas A190
      clear A190
      by_cases c20 : x214000_1.length < 1353245080339
      ·rw [if_pos c20] at H
       have LMc20 := qas c20
       clear c20
       obtain ⟨y230, hy230⟩ : ∃ y_ : List (S39), y_ = (x214000_1 ++ [(⟨t217, t218, t219, t222, t223, t224, t225, t226, t227⟩ : S39)]) := ⟨_, rfl⟩
       replace H : (zipget_Get.l0 k1 a0 t228 t229 y230) = some (r1, r2) := by first | (rw [hy230]; with_reducible exact H) | (have H2_ := (Option.bind_some _ _).symm.trans H; rw [hy230]; with_reducible exact H2_) | (have H2_ := (Option.bind_some _ _).symm.trans H; with_reducible exact H2_) | with_reducible exact H | (rw [hy230]; exact H) | exact H
       have Ny230 := qas hy230
       clear hy230
       have H' := qas H
       clear H
       obtain ⟨HGz21, hgz21⟩ := HI212.out
       have hcz21_0 := cellS94_0 HGz21
       have hcz21_1 := cellS94_1 HGz21
       have hfz21_0 := blk_frozen HGz21 0
       have hfz21_1 := blk_frozen HGz21 1
       clear HGz21 hgz21
       try go_wp2_with (first | ((with_reducible refine gate_callee (f := 61) rfl ?_); refine goesL_ (some 15) rfl rfl Tryd.func61 (by kernel_rfl) rfl #[.string x213000_1, .string (⟨#[80, 75, 3, 4]⟩ : ByteArray)] rfl (by (try simp only [List.map_toArray, List.map_cons, List.map_nil]); first | done | rfl | (simp only [List.length_drop, List.length_take]; rfl)) ?_; (with_reducible refine (strings_HasPrefix.calls x213000_1 (⟨#[80, 75, 3, 4]⟩ : ByteArray) true _ A5.out).mono ?_); rintro e w' ⟨rfl, ⟨nd, rfl⟩⟩; refine ⟨_, rfl, ?_⟩; (try (rw [drewN_self wr]; generalize hq_ : World.drewN wr _ = wr; have n0_ : Aside0 (Kd.S k39 39 wr w.heap.size (fun _ => True) u214000 x214000_1) := ⟨by rw [← hq_]; exact (by (with_reducible repeat (first | apply Kd.S_alloc | apply Kd.S_drewN | apply Kd.S_drew)); exact HO_214000.out)⟩; have n1_ : Aside0 (wr.heap[gb211]? = some (.cells #[.slice none 0 0] 24 (0, 0))) := ⟨by rw [← hq_]; exact (by (with_reducible repeat (first | refine qkA ?_ _ | refine qkB ?_ | refine qkC ?_ _)); exact BK211.out)⟩; have n2_ : Aside0 (wr.heap[gb213]? = some (.cells #[u214000] 24 (0, 0))) := ⟨by rw [← hq_]; exact (by (with_reducible repeat (first | refine qkA ?_ _ | refine qkB ?_ | refine qkC ?_ _)); exact BK213.out)⟩; have n3_ : Aside0 (IsS94 w wr gb212 x213000_1 false) := ⟨by rw [← hq_]; exact (by repeat (first | (with_reducible first | exact HI212.out | apply IsS94.alloc | apply IsS94.drewN | apply IsS94.drew | apply IsS94.set_0 | apply IsS94.set_1 | apply IsS94.farB (hne := NB212_211.out) | apply IsS94.farB (hne := NB212_213.out)) | exact HI212.out))⟩; have n4_ : Aside0 (Below w.heap.size w wr) := ⟨by rw [← hq_]; exact (by repeat (first | (with_reducible first | exact HB.out | apply qbA | apply qbB | apply qbC | refine below_set ?_ (IsS94.ge HI212.out) | refine below_set ?_ GE211.out | refine below_set ?_ GE213.out) | exact HB.out))⟩; clear HO_214000 BK211 BK213 HI212 HB hq_; have HO_214000 := n0_; have BK211 := n1_; have BK213 := n2_; have HI212 := n3_; have HB := n4_; clear n0_ n1_ n2_ n3_ n4_)); (try (obtain ⟨HGy, hgy⟩ := HI212.out; have hcy0 := cellS94_0 HGy; have hfy0 := blk_frozen HGy 0; have hcy1 := cellS94_1 HGy; have hfy1 := blk_frozen HGy 1; clear HGy hgy)); have hnb22 := NB213_211.out; have hnc22 := NB211_213.out; have hnb23 := NB213_212.out; have hnc23 := NB212_213.out; have hcz24_0 : wr.cell? ⟨gb213, 0, none⟩ = some (u214000) := (blk_cell BK213.out 0).trans rfl; have hfz24_0 := blk_frozen BK213.out 0; obtain ⟨Ao25, co25, eo25⟩ := Kd.S_slice HO_214000.out; subst eo25))
       have n0_ := qas (Kd.S_drew HO_214000.out)
       have n1_ := qas (qkB BK211.out)
       have n2_ := qas (qkB BK213.out)
       have n3_ := qas (IsS94.drew HI212.out)
       have n4_ := qas (qbC HB.out)
       clear HO_214000
       clear BK211
       clear BK213
       clear HI212
       clear HB
       have HO_214000 := n0_
       have BK211 := n1_
       have BK213 := n2_
       have HI212 := n3_
       have HB := n4_
       clear n0_ n1_ n2_ n3_ n4_
       refine start_ (n := 8) (S := fun w' => w'.cell? ⟨gb213, 0, none⟩ = some (.slice Ao25 x214000_1.length co25)) (ds := [7]) #[false, false, false, false, false, false, false, false] (by kernel_rfl) rfl rfl ((blk_cell BK213.out 0).trans rfl) (fun hHeld => ?_); refine with_tabW zipget_Get.tab4 zipget_Get.bits4 (fun HT_ HW_ => ?_)
       generalize wr.drew = w26 at HO_214000 BK211 BK213 HI212 HB hHeld ⊢
       refine pure_ (i := 0) (N := some 29) (v := ?_) (a' := ?_) #[true, false, false, false, false, false, false, false] rfl rfl (any_of HT_.out (by kernel_rfl)) (fun _ _ _ h => h) (Or.inl ⟨by rfl, ?_⟩) ?_ ?_
       rotate_left
       ·intro w'
        go_simp
        with_reducible rfl
       rotate_left
       ·simp only [Act.put, qsA, qsB, qsC, i64_w, i32_w, qsD, qsE]
        rfl
       refine pure_ (i := 2) (N := some 31) (v := ?_) (a' := ?_) #[true, false, true, false, false, false, false, false] rfl rfl (any_of HT_.out (by kernel_rfl)) (fun _ _ _ h => h) (Or.inl ⟨by rfl, ?_⟩) ?_ ?_
       rotate_left
       ·intro w'
        go_simp
        with_reducible rfl
       rotate_left
       ·simp only [Act.put, qsA, qsB, qsC, i64_w, i32_w, qsD, qsE]
        rfl
       refine take_ (i := 1) (N := some 30) (v := ?_) (a' := ?_) #[true, true, true, false, false, false, false, false] rfl rfl (take_ofW HT_.out HW_.out (by kernel_rfl)) (fun _ _ _ h => h) (Or.inl ⟨by rfl, ?_⟩) hHeld ?_ ?_
       rotate_left
       ·intro w' s0
        go_simp
        with_reducible rfl
       rotate_left
       ·simp only [Act.put, qsA, qsB, qsC, i64_w, i32_w, qsD, qsE]
        rfl
       refine one_ (i := 3) (N := some 32) #[true, true, true, true, false, false, false, false] rfl rfl (one_of HT_.out (by kernel_rfl)) (by decide) (fun K hK => ?_)
       refine goes_ Tryd.func62 (by kernel_rfl) rfl #[.pointer (some ⟨gb212, 0, none⟩)] (by rfl) rfl rfl (by (try simp only [List.map_toArray, List.map_cons, List.map_nil]); first | done | rfl | (simp only [List.length_drop, List.length_take]; rfl)) ?_
       with_reducible refine (zipget_entry.calls k1 gb212 x213000_1 false t217 t218 t219 t222 t223 t224 t225 t226 t227 t228 t229 w _ ?side1 ?side2 A19.out).mono ?_
       (case side1 => repeat (first | (with_reducible first | exact HI212.out | apply IsS94.alloc | apply IsS94.drewN | apply IsS94.drew | apply IsS94.set_0 | apply IsS94.set_1 | apply IsS94.farB (hne := NB212_211.out) | apply IsS94.farB (hne := NB212_213.out)) | exact HI212.out))
       (case side2 => repeat (first | (with_reducible first | exact HB.out | apply qbA | apply qbB | apply qbC | refine below_set ?_ (IsS94.ge HI212.out) | refine below_set ?_ GE211.out | refine below_set ?_ GE213.out) | exact HB.out))
       rintro e w27 ⟨v220, rfl, ho0, hi, hb, hk⟩
       refine ⟨_, rfl, ?_⟩
       have n0_ := qas (Kd.S_mono (Kd.S_told (Kd.S_oldK (IsS94.apartS (show IsS94 w _ gb212 x213000_1 false from by repeat (first | (with_reducible first | exact HI212.out | apply IsS94.alloc | apply IsS94.drewN | apply IsS94.drew | apply IsS94.set_0 | apply IsS94.set_1 | apply IsS94.farB (hne := NB212_211.out) | apply IsS94.farB (hne := NB212_213.out)) | exact HI212.out)) (by (with_reducible repeat (first | apply Kd.S_alloc | apply Kd.S_drewN | apply Kd.S_drew)); exact HO_214000.out) (by decide)) hk) (Kd.R_base ho0)) (fun _ h_ => h_.1))
       have n1_ := qas (KeepBut.blk hk (g' := gb211) (o := .cells #[.slice none 0 0] 24 (0, 0)) (by (with_reducible repeat (first | refine qkA ?_ _ | refine qkB ?_ | refine qkC ?_ _)); exact BK211.out) NB211_212.out (by simp))
       have n2_ := qas (KeepBut.blk hk (g' := gb213) (o := .cells #[.slice Ao25 x214000_1.length co25] 24 (0, 0)) (by (with_reducible repeat (first | refine qkA ?_ _ | refine qkB ?_ | refine qkC ?_ _)); exact BK213.out) NB213_212.out (by simp))
       have n3_ := qas (Kd.R_lower ho0 (below_size (by repeat (first | (with_reducible first | exact HB.out | apply qbA | apply qbB | apply qbC | refine below_set ?_ (IsS94.ge HI212.out) | refine below_set ?_ GE211.out | refine below_set ?_ GE213.out) | exact HB.out))))
       have n4_ := qas (hb)
       have n5_ := qas (hi)
       clear HO_214000
       clear BK211
       clear BK213
       clear HB
       clear HI212
       have HO_214000 := n0_
       have BK211 := n1_
       have BK213 := n2_
       have HO221 := n3_
       have HB := n4_
       have HI212 := n5_
       clear n0_ n1_ n2_ n3_ n4_ n5_
       (try clear hb)
       (try clear hb2)
       (try clear hk)
       (try clear hi)
       (try clear ho0)
       obtain ⟨Ao29, co29, eo29⟩ := Kd.R_slice HO221.out
       (first | subst eo29 | (injection eo29 with f1_ f2_ f3_; have f4_ := f1_.symm; have f5_ := f3_.symm; clear f1_ f2_ f3_; subst f4_; subst f5_))
       refine hK.out _ _ ((blk_cell BK213.out 0).trans rfl) (fun hHeld => ?_)
       clear hK K
       refine norm_ (a' := ?_) ?_ ?_
       rotate_left
       ·show Act.put _ (some 32) _ = _
        simp only [Act.put, qsA, qsB, qsC, i64_w, i32_w, qsD, qsE]
        rfl
       refine one_ (i := 4) (N := some 33) #[true, true, true, true, true, false, false, false] rfl rfl (one_of HT_.out (by kernel_rfl)) (by decide) (fun K hK => ?_)
       refine value_ (w1 := ?_) (v := ?_) (by rfl) rfl ?_ ?_
       rotate_left 2
       ·go_simp
        constructor
        ·rfl
        ·rfl
       refine hK.out _ _ ((blk_cell (qkC BK213.out _) 0).trans rfl) (fun hHeld => ?_)
       clear hK K
       refine norm_ (a' := ?_) ?_ ?_
       rotate_left
       ·show Act.put _ (some 33) _ = _
        simp only [Act.put, qsA, qsB, qsC, i64_w, i32_w, qsD, qsE]
        rfl
       refine one_ (i := 5) (N := some 34) #[true, true, true, true, true, true, false, false] rfl rfl (one_of HT_.out (by kernel_rfl)) (by decide) (fun K hK => ?_)
       refine Kd.S_append_step k39 (w0 := w) w.heap.size (by rfl) (.tmp 30) (.tmp 33) 22 39 (.agg #[(.string ⟨#[]⟩), (.bool false), (.slice none 0 0), (.int .i64 0), (.int .i64 0), (.int .i64 0), (.string ⟨#[]⟩), (.int .i64 0), (.int .i64 0)]) 104 rfl Tryd.underlying22 info39 rfl (by decide) (by omega) (.slice Ao25 x214000_1.length co25) x214000_1 (⟨t217, t218, t219, t222, t223, t224, t225, t226, t227⟩ : S39) [.string t217, .bool t218, .slice Ao29 t219.length co29, .int .i64 t222, .int .i64 t223, .int .i64 t224, .string t225, .int .i64 t226, .int .i64 t227] (fun _ => True) (fun k_ => some k_ = (.slice Ao29 t219.length co29 : Value).ownBlock) rfl rfl ?aP (fun k_ hk_ => ((Kd.R_mono (ok' := fun k_ => ((fun _ => True)) k_ ∧ some k_ ≠ (.slice Ao25 x214000_1.length co25 : Value).ownBlock) (Kd.R_apart' (HO221.out) (Kd.S_typed HO_214000.out) (by decide)) (fun k_ hk => ⟨trivial, hk.2⟩))).1 k_ hk_.symm) ?aF ?aO ?aB ?aS ?aL ?_
       (case aP => exact k39_mkM _ _ _ (⟨t217, t218, t219, t222, t223, t224, t225, t226, t227⟩ : S39) (Kd.R_mono (Kd.R_tight rfl (Kd.R_mono (ok' := fun k_ => ((fun _ => True)) k_ ∧ some k_ ≠ (.slice Ao25 x214000_1.length co25 : Value).ownBlock) (Kd.R_apart' (HO221.out) (Kd.S_typed HO_214000.out) (by decide)) (fun k_ hk => ⟨trivial, hk.2⟩))) (fun _ h_ => h_)))
       (case aB => exact (by repeat (first | (with_reducible first | exact HB.out | apply qbA | apply qbB | apply qbC | refine below_set ?_ (IsS94.ge HI212.out) | refine below_set ?_ GE211.out | refine below_set ?_ GE213.out) | exact HB.out)))
       (case aF => exact (fun _ _ => trivial))
       (case aO => exact (by (with_reducible repeat (first | apply Kd.S_alloc | apply Kd.S_drewN | apply Kd.S_drew)); exact Kd.S_mono HO_214000.out (fun k_ hk => ⟨trivial, fun e_ => hk.2 e_⟩)))
       (case aS => exact (below_size (by repeat (first | (with_reducible first | exact HB.out | apply qbA | apply qbB | apply qbC | refine below_set ?_ (IsS94.ge HI212.out) | refine below_set ?_ GE211.out | refine below_set ?_ GE213.out) | exact HB.out))))
       (case aL => have := LMc20.out; omega)
       intro v231 w28 ho hb hg hat
       rw [← Ny230.out] at ho
       have n0_ := qas (blk_grown (g := gb211) (o := .cells #[.slice none 0 0] 24 (0, 0)) (by (with_reducible repeat (first | refine qkA ?_ _ | refine qkB ?_ | refine qkC ?_ _)); exact BK211.out) hg (Kd.S_ne HO_214000.out BK211.out (by decide)))
       have n1_ := qas (blk_grown (g := gb213) (o := .cells #[.slice Ao25 x214000_1.length co25] 24 (0, 0)) (by (with_reducible repeat (first | refine qkA ?_ _ | refine qkB ?_ | refine qkC ?_ _)); exact BK213.out) hg (Kd.S_ne HO_214000.out BK213.out (by decide)))
       have n2_ := qas (IsS94.grown (by repeat (first | (with_reducible first | exact HI212.out | apply IsS94.alloc | apply IsS94.drewN | apply IsS94.drew | apply IsS94.set_0 | apply IsS94.set_1 | apply IsS94.farB (hne := NB212_211.out) | apply IsS94.farB (hne := NB212_213.out)) | exact HI212.out)) hg (IsS94.own_neS HI212.out HO_214000.out (by decide)))
       have n3_ := qas (hb)
       have n4_ := qas (ho)
       clear BK211
       clear BK213
       clear HI212
       clear HB
       clear HO_214000
       clear HO221
       have BK211 := n0_
       have BK213 := n1_
       have HI212 := n2_
       have HB := n3_
       have HO232 := n4_
       clear n0_ n1_ n2_ n3_ n4_
       clear ho hb hg hat
       obtain ⟨Ao30, co30, eo30⟩ := Kd.S_slice HO232.out
       (first | subst eo30 | (injection eo30 with f1_ f2_ f3_; have f4_ := f1_.symm; have f5_ := f3_.symm; clear f1_ f2_ f3_; subst f4_; subst f5_))
       refine hK.out _ _ ((blk_cell BK213.out 0).trans rfl) (fun hHeld => ?_)
       clear hK K
       refine norm_ (a' := ?_) ?_ ?_
       rotate_left
       ·show Act.put _ (some 34) _ = _
        simp only [Act.put, qsA, qsB, qsC, i64_w, i32_w, qsD, qsE]
        rfl
       refine pure_ (i := 6) (N := some 35) (v := ?_) (a' := ?_) #[true, true, true, true, true, true, true, false] rfl rfl (any_of HT_.out (by kernel_rfl)) (fun _ _ _ h => h) (Or.inl ⟨by rfl, ?_⟩) ?_ ?_
       rotate_left
       ·intro w'
        go_simp
        with_reducible rfl
       rotate_left
       ·simp only [Act.put, qsA, qsB, qsC, i64_w, i32_w, qsD, qsE]
        rfl
       refine last_ (i := 7) (N := none) #[true, true, true, true, true, true, true, true] rfl rfl (one_of HT_.out (by kernel_rfl)) (by decide) (fun K hK => ?_)
       have hs31 : w28.cell? ⟨gb213, 0, none⟩ = some (.slice Ao25 x214000_1.length co25) := (blk_cell BK213.out 0).trans rfl
       have hfs31 := blk_frozen BK213.out 0
       have hns31_0 := NB211_213.out
       have hms31_0 := NB213_211.out
       refine skip_ (w1 := ?_) (by rfl) rfl ?_ ?_
       rotate_left
       ·go_simp
        rfl
       refine hK.out _ _ ?_
       clear hK K
       refine done_ (done_of HT_.out (by kernel_rfl)) ?_
       try go_wp2
       go_roundg k1
       case measure => have := HK1.out; omega
       case rel => exact ⟨(t228), (t229), (y230), (.slice Ao30 y230.length co30), H', ⟨by have := HK1.out; omega⟩, ⟨by (with_reducible repeat (first | apply Kd.S_alloc | apply Kd.S_drewN | apply Kd.S_drew)); exact Kd.S_mono (Kd.S_far (p := ⟨gb213, 0, none⟩) (Kd.S_types HO232.out BK213.out (by decide)) (fun _ hk => hk.2) (.slice Ao30 y230.length co30)) (fun _ hk => trivial)⟩, ⟨by (with_reducible repeat (first | refine qkA ?_ _ | refine qkB ?_ | refine qkC ?_ _)); refine blk_far ?_ NB211_213.out _; (with_reducible repeat (first | refine qkA ?_ _ | refine qkB ?_ | refine qkC ?_ _)); exact BK211.out⟩, ⟨by (with_reducible repeat (first | refine qkA ?_ _ | refine qkB ?_ | refine qkC ?_ _)); refine blk_put (cs := #[.slice Ao25 x214000_1.length co25]) ?_ 0 _ rfl; (with_reducible repeat (first | refine qkA ?_ _ | refine qkB ?_ | refine qkC ?_ _)); exact BK213.out⟩, ⟨by repeat (first | (with_reducible first | exact HI212.out | apply IsS94.alloc | apply IsS94.drewN | apply IsS94.drew | apply IsS94.set_0 | apply IsS94.set_1 | apply IsS94.farB (hne := NB212_211.out) | apply IsS94.farB (hne := NB212_213.out)) | exact HI212.out)⟩, ⟨by repeat (first | (with_reducible first | exact HB.out | apply qbA | apply qbB | apply qbC | refine below_set ?_ (IsS94.ge HI212.out) | refine below_set ?_ GE211.out | refine below_set ?_ GE213.out) | exact HB.out)⟩⟩
      ·rw [if_neg c20] at H
       exact absurd H (by simp)
     ·rw [if_neg c18] at H
      have c18b0 : decide ((x214000_1.length : Int) < 6) = false := decide_eq_false c18
      have c18b1 : decide (x214000_1.length < 6) = false := decide_eq_false (by omega)
      clear c18
      replace H := Option.bind_eq_some_iff.mp H
      obtain ⟨⟨t233, t234⟩, A320, H⟩ := H
      replace H : (if t234 = 0 then (if t233.toList = a0.toList then (some (x214000_1, 0)) else (some (([] : List (S39)), 1400))) else (some (([] : List (S39)), 1400))) = some (r1, r2) := H
      have A32 := qas A320
      clear A320
      by_cases c33 : t234 = 0
      ·rw [if_pos c33] at H
       have c33b0 : (t234 == 0) = true := beq_iff_eq.mpr c33
       have c33b1 : (t234 != 0) = false := bne_eq_false_iff_eq.mpr c33
       clear c33
       by_cases c34 : t233.toList = a0.toList
       ·rw [if_pos c34] at H
        have c34b0 : (t233.toList == a0.toList) = true := beq_iff_eq.mpr c34
        have c34b1 : (t233.toList != a0.toList) = false := bne_eq_false_iff_eq.mpr c34
        clear c34
        simp only [Option.some.injEq, Prod.mk.injEq] at H
        obtain ⟨rfl, rfl⟩ := H
        obtain ⟨HGz35, hgz35⟩ := HI212.out
        have hcz35_0 := cellS94_0 HGz35
        have hcz35_1 := cellS94_1 HGz35
        have hfz35_0 := blk_frozen HGz35 0
        have hfz35_1 := blk_frozen HGz35 1
        clear HGz35 hgz35
        go_wp2_with (first | ((with_reducible refine gate_callee (f := 61) rfl ?_); refine goesL_ (some 15) rfl rfl Tryd.func61 (by kernel_rfl) rfl #[.string x213000_1, .string (⟨#[80, 75, 3, 4]⟩ : ByteArray)] rfl (by (try simp only [List.map_toArray, List.map_cons, List.map_nil]); first | done | rfl | (simp only [List.length_drop, List.length_take]; rfl)) ?_; (with_reducible refine (strings_HasPrefix.calls x213000_1 (⟨#[80, 75, 3, 4]⟩ : ByteArray) true _ A5.out).mono ?_); rintro e w' ⟨rfl, ⟨nd, rfl⟩⟩; refine ⟨_, rfl, ?_⟩; (try (rw [drewN_self wr]; generalize hq_ : World.drewN wr _ = wr; have n0_ : Aside0 (Kd.S k39 39 wr w.heap.size (fun _ => True) u214000 x214000_1) := ⟨by rw [← hq_]; exact (by (with_reducible repeat (first | apply Kd.S_alloc | apply Kd.S_drewN | apply Kd.S_drew)); exact HO_214000.out)⟩; have n1_ : Aside0 (wr.heap[gb211]? = some (.cells #[.slice none 0 0] 24 (0, 0))) := ⟨by rw [← hq_]; exact (by (with_reducible repeat (first | refine qkA ?_ _ | refine qkB ?_ | refine qkC ?_ _)); exact BK211.out)⟩; have n2_ : Aside0 (wr.heap[gb213]? = some (.cells #[u214000] 24 (0, 0))) := ⟨by rw [← hq_]; exact (by (with_reducible repeat (first | refine qkA ?_ _ | refine qkB ?_ | refine qkC ?_ _)); exact BK213.out)⟩; have n3_ : Aside0 (IsS94 w wr gb212 x213000_1 false) := ⟨by rw [← hq_]; exact (by repeat (first | (with_reducible first | exact HI212.out | apply IsS94.alloc | apply IsS94.drewN | apply IsS94.drew | apply IsS94.set_0 | apply IsS94.set_1 | apply IsS94.farB (hne := NB212_211.out) | apply IsS94.farB (hne := NB212_213.out)) | exact HI212.out))⟩; have n4_ : Aside0 (Below w.heap.size w wr) := ⟨by rw [← hq_]; exact (by repeat (first | (with_reducible first | exact HB.out | apply qbA | apply qbB | apply qbC | refine below_set ?_ (IsS94.ge HI212.out) | refine below_set ?_ GE211.out | refine below_set ?_ GE213.out) | exact HB.out))⟩; clear HO_214000 BK211 BK213 HI212 HB hq_; have HO_214000 := n0_; have BK211 := n1_; have BK213 := n2_; have HI212 := n3_; have HB := n4_; clear n0_ n1_ n2_ n3_ n4_)); (try (obtain ⟨HGy, hgy⟩ := HI212.out; have hcy0 := cellS94_0 HGy; have hfy0 := blk_frozen HGy 0; have hcy1 := cellS94_1 HGy; have hfy1 := blk_frozen HGy 1; clear HGy hgy)); have hnb36 := NB213_211.out; have hnc36 := NB211_213.out; have hnb37 := NB213_212.out; have hnc37 := NB212_213.out; have hcz38_0 : wr.cell? ⟨gb213, 0, none⟩ = some (u214000) := (blk_cell BK213.out 0).trans rfl; have hfz38_0 := blk_frozen BK213.out 0; obtain ⟨Ao39, co39, eo39⟩ := Kd.S_slice HO_214000.out; subst eo39) | ((with_reducible refine gate_callee (f := 17) rfl ?_); refine goesL_ (some 38) rfl rfl Tryd.func17 (by kernel_rfl) rfl #[.agg #[.slice Ao39 x214000_1.length co39]] rfl (by (try simp only [List.map_toArray, List.map_cons, List.map_nil]); first | done | rfl | (simp only [List.length_drop, List.length_take]; rfl)) ?_; (with_reducible refine (zipput_Put.calls _ _ x214000_1 t233 t234 _ ?side1 ?side2 A32.out).mono ?_); (case side1 => repeat (first | exact (Kd.S_reads' HO_214000.out).2.2 | (with_reducible refine Kd.C_alloc ?_ _) | (with_reducible refine Kd.C_drewN ?_ _) | (with_reducible refine Kd.C_drew ?_))); (case side2 => exact (Kd.S_reads' HO_214000.out).2.1); rintro e w40 ⟨rfl, hb⟩; refine ⟨_, rfl, ?_⟩; have n0_ := qas (Kd.S_below (by (with_reducible repeat (first | apply Kd.S_alloc | apply Kd.S_drewN | apply Kd.S_drew)); exact HO_214000.out) hb); have n1_ := qas (blk_below (g := gb211) (o := .cells #[.slice none 0 0] 24 (0, 0)) (by (with_reducible repeat (first | refine qkA ?_ _ | refine qkB ?_ | refine qkC ?_ _)); exact BK211.out) hb); have n2_ := qas (blk_below (g := gb213) (o := .cells #[.slice Ao39 x214000_1.length co39] 24 (0, 0)) (by (with_reducible repeat (first | refine qkA ?_ _ | refine qkB ?_ | refine qkC ?_ _)); exact BK213.out) hb); have n3_ := qas (IsS94.below (by repeat (first | (with_reducible first | exact HI212.out | apply IsS94.alloc | apply IsS94.drewN | apply IsS94.drew | apply IsS94.set_0 | apply IsS94.set_1 | apply IsS94.farB (hne := NB212_211.out) | apply IsS94.farB (hne := NB212_213.out)) | exact HI212.out)) hb); have n4_ := qas (below_step (by repeat (first | (with_reducible first | exact HB.out | apply qbA | apply qbB | apply qbC | refine below_set ?_ (IsS94.ge HI212.out) | refine below_set ?_ GE211.out | refine below_set ?_ GE213.out) | exact HB.out)) hb); clear HO_214000; clear BK211; clear BK213; clear HI212; clear HB; have HO_214000 := n0_; have BK211 := n1_; have BK213 := n2_; have HI212 := n3_; have HB := n4_; clear n0_ n1_ n2_ n3_ n4_; (try clear hb); (try clear hb2); (try clear hk); (try clear hi); obtain ⟨HGz41, hgz41⟩ := HI212.out; have hcz41_0 := cellS94_0 HGz41; have hcz41_1 := cellS94_1 HGz41; have hfz41_0 := blk_frozen HGz41 0; have hfz41_1 := blk_frozen HGz41 1; clear HGz41 hgz41; have hcz42_0 : w40.cell? ⟨gb213, 0, none⟩ = some (.slice Ao39 x214000_1.length co39) := (blk_cell BK213.out 0).trans rfl; have hfz42_0 := blk_frozen BK213.out 0; have hnb43 := NB211_212.out; have hnc43 := NB212_211.out; have hcz44_0 : w40.cell? ⟨gb211, 0, none⟩ = some (.slice none 0 0) := (blk_cell BK211.out 0).trans rfl; have hfz44_0 := blk_frozen BK211.out 0))
        refine bodyPost_ret (results_ct rfl _ _ gb211 24 #[.slice Ao39 x214000_1.length co39] (0, 0) _ rfl (by (with_reducible repeat (first | refine qkA ?_ _ | refine qkB ?_ | refine qkC ?_ _)); refine blk_put (cs := #[.slice none 0 0]) ?_ 0 _ rfl; (with_reducible repeat (first | refine qkA ?_ _ | refine qkB ?_ | refine qkC ?_ _)); exact BK211.out) Tryd.underlying24 rfl (by kernel_rfl)) rfl ?_
        exact ⟨_, by first | rfl | (simp [errW_none, errW_some] <;> rfl) | (simp [*, errW_none, errW_some] <;> rfl), by (with_reducible repeat (first | apply Kd.S_alloc | apply Kd.S_drewN | apply Kd.S_drew)); exact Kd.S_mono (Kd.S_far (p := ⟨gb211, 0, none⟩) (Kd.S_types HO_214000.out BK211.out (by decide)) (fun _ hk => hk.2) (.slice Ao39 x214000_1.length co39)) (fun _ hk => trivial), by repeat (first | (with_reducible first | exact HB.out | apply qbA | apply qbB | apply qbC | refine below_set ?_ (IsS94.ge HI212.out) | refine below_set ?_ GE211.out | refine below_set ?_ GE213.out) | exact HB.out)⟩
       ·rw [if_neg c34] at H
        have c34b0 : (t233.toList == a0.toList) = false := beq_eq_false_iff_ne.mpr c34
        have c34b1 : (t233.toList != a0.toList) = true := bne_iff_ne.mpr c34
        simp only [Option.some.injEq, Prod.mk.injEq] at H
        obtain ⟨rfl, rfl⟩ := H
        obtain ⟨HGz45, hgz45⟩ := HI212.out
        have hcz45_0 := cellS94_0 HGz45
        have hcz45_1 := cellS94_1 HGz45
        have hfz45_0 := blk_frozen HGz45 0
        have hfz45_1 := blk_frozen HGz45 1
        clear HGz45 hgz45
        go_wp2_with (first | ((with_reducible refine gate_callee (f := 61) rfl ?_); refine goesL_ (some 15) rfl rfl Tryd.func61 (by kernel_rfl) rfl #[.string x213000_1, .string (⟨#[80, 75, 3, 4]⟩ : ByteArray)] rfl (by (try simp only [List.map_toArray, List.map_cons, List.map_nil]); first | done | rfl | (simp only [List.length_drop, List.length_take]; rfl)) ?_; (with_reducible refine (strings_HasPrefix.calls x213000_1 (⟨#[80, 75, 3, 4]⟩ : ByteArray) true _ A5.out).mono ?_); rintro e w' ⟨rfl, ⟨nd, rfl⟩⟩; refine ⟨_, rfl, ?_⟩; (try (rw [drewN_self wr]; generalize hq_ : World.drewN wr _ = wr; have n0_ : Aside0 (Kd.S k39 39 wr w.heap.size (fun _ => True) u214000 x214000_1) := ⟨by rw [← hq_]; exact (by (with_reducible repeat (first | apply Kd.S_alloc | apply Kd.S_drewN | apply Kd.S_drew)); exact HO_214000.out)⟩; have n1_ : Aside0 (wr.heap[gb211]? = some (.cells #[.slice none 0 0] 24 (0, 0))) := ⟨by rw [← hq_]; exact (by (with_reducible repeat (first | refine qkA ?_ _ | refine qkB ?_ | refine qkC ?_ _)); exact BK211.out)⟩; have n2_ : Aside0 (wr.heap[gb213]? = some (.cells #[u214000] 24 (0, 0))) := ⟨by rw [← hq_]; exact (by (with_reducible repeat (first | refine qkA ?_ _ | refine qkB ?_ | refine qkC ?_ _)); exact BK213.out)⟩; have n3_ : Aside0 (IsS94 w wr gb212 x213000_1 false) := ⟨by rw [← hq_]; exact (by repeat (first | (with_reducible first | exact HI212.out | apply IsS94.alloc | apply IsS94.drewN | apply IsS94.drew | apply IsS94.set_0 | apply IsS94.set_1 | apply IsS94.farB (hne := NB212_211.out) | apply IsS94.farB (hne := NB212_213.out)) | exact HI212.out))⟩; have n4_ : Aside0 (Below w.heap.size w wr) := ⟨by rw [← hq_]; exact (by repeat (first | (with_reducible first | exact HB.out | apply qbA | apply qbB | apply qbC | refine below_set ?_ (IsS94.ge HI212.out) | refine below_set ?_ GE211.out | refine below_set ?_ GE213.out) | exact HB.out))⟩; clear HO_214000 BK211 BK213 HI212 HB hq_; have HO_214000 := n0_; have BK211 := n1_; have BK213 := n2_; have HI212 := n3_; have HB := n4_; clear n0_ n1_ n2_ n3_ n4_)); (try (obtain ⟨HGy, hgy⟩ := HI212.out; have hcy0 := cellS94_0 HGy; have hfy0 := blk_frozen HGy 0; have hcy1 := cellS94_1 HGy; have hfy1 := blk_frozen HGy 1; clear HGy hgy)); have hnb46 := NB213_211.out; have hnc46 := NB211_213.out; have hnb47 := NB213_212.out; have hnc47 := NB212_213.out; have hcz48_0 : wr.cell? ⟨gb213, 0, none⟩ = some (u214000) := (blk_cell BK213.out 0).trans rfl; have hfz48_0 := blk_frozen BK213.out 0; obtain ⟨Ao49, co49, eo49⟩ := Kd.S_slice HO_214000.out; subst eo49) | ((with_reducible refine gate_callee (f := 17) rfl ?_); refine goesL_ (some 38) rfl rfl Tryd.func17 (by kernel_rfl) rfl #[.agg #[.slice Ao49 x214000_1.length co49]] rfl (by (try simp only [List.map_toArray, List.map_cons, List.map_nil]); first | done | rfl | (simp only [List.length_drop, List.length_take]; rfl)) ?_; (with_reducible refine (zipput_Put.calls _ _ x214000_1 t233 t234 _ ?side1 ?side2 A32.out).mono ?_); (case side1 => repeat (first | exact (Kd.S_reads' HO_214000.out).2.2 | (with_reducible refine Kd.C_alloc ?_ _) | (with_reducible refine Kd.C_drewN ?_ _) | (with_reducible refine Kd.C_drew ?_))); (case side2 => exact (Kd.S_reads' HO_214000.out).2.1); rintro e w50 ⟨rfl, hb⟩; refine ⟨_, rfl, ?_⟩; have n0_ := qas (Kd.S_below (by (with_reducible repeat (first | apply Kd.S_alloc | apply Kd.S_drewN | apply Kd.S_drew)); exact HO_214000.out) hb); have n1_ := qas (blk_below (g := gb211) (o := .cells #[.slice none 0 0] 24 (0, 0)) (by (with_reducible repeat (first | refine qkA ?_ _ | refine qkB ?_ | refine qkC ?_ _)); exact BK211.out) hb); have n2_ := qas (blk_below (g := gb213) (o := .cells #[.slice Ao49 x214000_1.length co49] 24 (0, 0)) (by (with_reducible repeat (first | refine qkA ?_ _ | refine qkB ?_ | refine qkC ?_ _)); exact BK213.out) hb); have n3_ := qas (IsS94.below (by repeat (first | (with_reducible first | exact HI212.out | apply IsS94.alloc | apply IsS94.drewN | apply IsS94.drew | apply IsS94.set_0 | apply IsS94.set_1 | apply IsS94.farB (hne := NB212_211.out) | apply IsS94.farB (hne := NB212_213.out)) | exact HI212.out)) hb); have n4_ := qas (below_step (by repeat (first | (with_reducible first | exact HB.out | apply qbA | apply qbB | apply qbC | refine below_set ?_ (IsS94.ge HI212.out) | refine below_set ?_ GE211.out | refine below_set ?_ GE213.out) | exact HB.out)) hb); clear HO_214000; clear BK211; clear BK213; clear HI212; clear HB; have HO_214000 := n0_; have BK211 := n1_; have BK213 := n2_; have HI212 := n3_; have HB := n4_; clear n0_ n1_ n2_ n3_ n4_; (try clear hb); (try clear hb2); (try clear hk); (try clear hi); obtain ⟨HGz51, hgz51⟩ := HI212.out; have hcz51_0 := cellS94_0 HGz51; have hcz51_1 := cellS94_1 HGz51; have hfz51_0 := blk_frozen HGz51 0; have hfz51_1 := blk_frozen HGz51 1; clear HGz51 hgz51; have hnb52 := NB211_212.out; have hnc52 := NB212_211.out; have hcz53_0 : w50.cell? ⟨gb211, 0, none⟩ = some (.slice none 0 0) := (blk_cell BK211.out 0).trans rfl; have hfz53_0 := blk_frozen BK211.out 0))
        refine bodyPost_ret (results_ct rfl _ _ gb211 24 #[.slice none 0 0] (0, 0) _ rfl (by (with_reducible repeat (first | refine qkA ?_ _ | refine qkB ?_ | refine qkC ?_ _)); refine blk_put (cs := #[.slice none 0 0]) ?_ 0 _ rfl; (with_reducible repeat (first | refine qkA ?_ _ | refine qkB ?_ | refine qkC ?_ _)); exact BK211.out) Tryd.underlying24 rfl (by kernel_rfl)) rfl ?_
        exact ⟨_, by first | rfl | (simp [errW_none, errW_some] <;> rfl) | (simp [*, errW_none, errW_some] <;> rfl), by first | exact Kd.S_nil _ _ _ _ _ | exact Kd.N_nil _ _ _ _ _ | exact Kd.V_nil _ _ _ _ _ | exact Kd.Q_nil _ _ _ _ _ | exact Kd.R_nil _ _ _ _ _, by repeat (first | (with_reducible first | exact HB.out | apply qbA | apply qbB | apply qbC | refine below_set ?_ (IsS94.ge HI212.out) | refine below_set ?_ GE211.out | refine below_set ?_ GE213.out) | exact HB.out)⟩
      ·rw [if_neg c33] at H
       have c33b0 : (t234 == 0) = false := beq_eq_false_iff_ne.mpr c33
       have c33b1 : (t234 != 0) = true := bne_iff_ne.mpr c33
       simp only [Option.some.injEq, Prod.mk.injEq] at H
       obtain ⟨rfl, rfl⟩ := H
       obtain ⟨HGz54, hgz54⟩ := HI212.out
       have hcz54_0 := cellS94_0 HGz54
       have hcz54_1 := cellS94_1 HGz54
       have hfz54_0 := blk_frozen HGz54 0
       have hfz54_1 := blk_frozen HGz54 1
       clear HGz54 hgz54
       go_wp2_with (first | ((with_reducible refine gate_callee (f := 61) rfl ?_); refine goesL_ (some 15) rfl rfl Tryd.func61 (by kernel_rfl) rfl #[.string x213000_1, .string (⟨#[80, 75, 3, 4]⟩ : ByteArray)] rfl (by (try simp only [List.map_toArray, List.map_cons, List.map_nil]); first | done | rfl | (simp only [List.length_drop, List.length_take]; rfl)) ?_; (with_reducible refine (strings_HasPrefix.calls x213000_1 (⟨#[80, 75, 3, 4]⟩ : ByteArray) true _ A5.out).mono ?_); rintro e w' ⟨rfl, ⟨nd, rfl⟩⟩; refine ⟨_, rfl, ?_⟩; (try (rw [drewN_self wr]; generalize hq_ : World.drewN wr _ = wr; have n0_ : Aside0 (Kd.S k39 39 wr w.heap.size (fun _ => True) u214000 x214000_1) := ⟨by rw [← hq_]; exact (by (with_reducible repeat (first | apply Kd.S_alloc | apply Kd.S_drewN | apply Kd.S_drew)); exact HO_214000.out)⟩; have n1_ : Aside0 (wr.heap[gb211]? = some (.cells #[.slice none 0 0] 24 (0, 0))) := ⟨by rw [← hq_]; exact (by (with_reducible repeat (first | refine qkA ?_ _ | refine qkB ?_ | refine qkC ?_ _)); exact BK211.out)⟩; have n2_ : Aside0 (wr.heap[gb213]? = some (.cells #[u214000] 24 (0, 0))) := ⟨by rw [← hq_]; exact (by (with_reducible repeat (first | refine qkA ?_ _ | refine qkB ?_ | refine qkC ?_ _)); exact BK213.out)⟩; have n3_ : Aside0 (IsS94 w wr gb212 x213000_1 false) := ⟨by rw [← hq_]; exact (by repeat (first | (with_reducible first | exact HI212.out | apply IsS94.alloc | apply IsS94.drewN | apply IsS94.drew | apply IsS94.set_0 | apply IsS94.set_1 | apply IsS94.farB (hne := NB212_211.out) | apply IsS94.farB (hne := NB212_213.out)) | exact HI212.out))⟩; have n4_ : Aside0 (Below w.heap.size w wr) := ⟨by rw [← hq_]; exact (by repeat (first | (with_reducible first | exact HB.out | apply qbA | apply qbB | apply qbC | refine below_set ?_ (IsS94.ge HI212.out) | refine below_set ?_ GE211.out | refine below_set ?_ GE213.out) | exact HB.out))⟩; clear HO_214000 BK211 BK213 HI212 HB hq_; have HO_214000 := n0_; have BK211 := n1_; have BK213 := n2_; have HI212 := n3_; have HB := n4_; clear n0_ n1_ n2_ n3_ n4_)); (try (obtain ⟨HGy, hgy⟩ := HI212.out; have hcy0 := cellS94_0 HGy; have hfy0 := blk_frozen HGy 0; have hcy1 := cellS94_1 HGy; have hfy1 := blk_frozen HGy 1; clear HGy hgy)); have hnb55 := NB213_211.out; have hnc55 := NB211_213.out; have hnb56 := NB213_212.out; have hnc56 := NB212_213.out; have hcz57_0 : wr.cell? ⟨gb213, 0, none⟩ = some (u214000) := (blk_cell BK213.out 0).trans rfl; have hfz57_0 := blk_frozen BK213.out 0; obtain ⟨Ao58, co58, eo58⟩ := Kd.S_slice HO_214000.out; subst eo58) | ((with_reducible refine gate_callee (f := 17) rfl ?_); refine goesL_ (some 38) rfl rfl Tryd.func17 (by kernel_rfl) rfl #[.agg #[.slice Ao58 x214000_1.length co58]] rfl (by (try simp only [List.map_toArray, List.map_cons, List.map_nil]); first | done | rfl | (simp only [List.length_drop, List.length_take]; rfl)) ?_; (with_reducible refine (zipput_Put.calls _ _ x214000_1 t233 t234 _ ?side1 ?side2 A32.out).mono ?_); (case side1 => repeat (first | exact (Kd.S_reads' HO_214000.out).2.2 | (with_reducible refine Kd.C_alloc ?_ _) | (with_reducible refine Kd.C_drewN ?_ _) | (with_reducible refine Kd.C_drew ?_))); (case side2 => exact (Kd.S_reads' HO_214000.out).2.1); rintro e w59 ⟨rfl, hb⟩; refine ⟨_, rfl, ?_⟩; have n0_ := qas (Kd.S_below (by (with_reducible repeat (first | apply Kd.S_alloc | apply Kd.S_drewN | apply Kd.S_drew)); exact HO_214000.out) hb); have n1_ := qas (blk_below (g := gb211) (o := .cells #[.slice none 0 0] 24 (0, 0)) (by (with_reducible repeat (first | refine qkA ?_ _ | refine qkB ?_ | refine qkC ?_ _)); exact BK211.out) hb); have n2_ := qas (blk_below (g := gb213) (o := .cells #[.slice Ao58 x214000_1.length co58] 24 (0, 0)) (by (with_reducible repeat (first | refine qkA ?_ _ | refine qkB ?_ | refine qkC ?_ _)); exact BK213.out) hb); have n3_ := qas (IsS94.below (by repeat (first | (with_reducible first | exact HI212.out | apply IsS94.alloc | apply IsS94.drewN | apply IsS94.drew | apply IsS94.set_0 | apply IsS94.set_1 | apply IsS94.farB (hne := NB212_211.out) | apply IsS94.farB (hne := NB212_213.out)) | exact HI212.out)) hb); have n4_ := qas (below_step (by repeat (first | (with_reducible first | exact HB.out | apply qbA | apply qbB | apply qbC | refine below_set ?_ (IsS94.ge HI212.out) | refine below_set ?_ GE211.out | refine below_set ?_ GE213.out) | exact HB.out)) hb); clear HO_214000; clear BK211; clear BK213; clear HI212; clear HB; have HO_214000 := n0_; have BK211 := n1_; have BK213 := n2_; have HI212 := n3_; have HB := n4_; clear n0_ n1_ n2_ n3_ n4_; (try clear hb); (try clear hb2); (try clear hk); (try clear hi); obtain ⟨HGz60, hgz60⟩ := HI212.out; have hcz60_0 := cellS94_0 HGz60; have hcz60_1 := cellS94_1 HGz60; have hfz60_0 := blk_frozen HGz60 0; have hfz60_1 := blk_frozen HGz60 1; clear HGz60 hgz60; have hnb61 := NB211_212.out; have hnc61 := NB212_211.out; have hcz62_0 : w59.cell? ⟨gb211, 0, none⟩ = some (.slice none 0 0) := (blk_cell BK211.out 0).trans rfl; have hfz62_0 := blk_frozen BK211.out 0))
       refine bodyPost_ret (results_ct rfl _ _ gb211 24 #[.slice none 0 0] (0, 0) _ rfl (by (with_reducible repeat (first | refine qkA ?_ _ | refine qkB ?_ | refine qkC ?_ _)); refine blk_put (cs := #[.slice none 0 0]) ?_ 0 _ rfl; (with_reducible repeat (first | refine qkA ?_ _ | refine qkB ?_ | refine qkC ?_ _)); exact BK211.out) Tryd.underlying24 rfl (by kernel_rfl)) rfl ?_
       exact ⟨_, by first | rfl | (simp [errW_none, errW_some] <;> rfl) | (simp [*, errW_none, errW_some] <;> rfl), by first | exact Kd.S_nil _ _ _ _ _ | exact Kd.N_nil _ _ _ _ _ | exact Kd.V_nil _ _ _ _ _ | exact Kd.Q_nil _ _ _ _ _ | exact Kd.R_nil _ _ _ _ _, by repeat (first | (with_reducible first | exact HB.out | apply qbA | apply qbB | apply qbC | refine below_set ?_ (IsS94.ge HI212.out) | refine below_set ?_ GE211.out | refine below_set ?_ GE213.out) | exact HB.out)⟩
   ·replace c6 := Bool.eq_false_iff.mpr c6
    subst c6
    have H1 : ((zipput_Put.f x214000_1).bind fun bt235 => (if x213001_1 = true then (some (([] : List (S39)), 1400)) else (if bt235.2 = 0 then (if bt235.1.toList = a0.toList then (some (x214000_1, 0)) else (some (([] : List (S39)), 1400))) else (some (([] : List (S39)), 1400))))) = some (r1, r2) := by rw [if_neg (show ¬ (false = true) by decide)] at H; exact H
    clear H
    have H := H1
    clear H1
    replace H := Option.bind_eq_some_iff.mp H
    obtain ⟨⟨t235, t236⟩, A630, H⟩ := H
    replace H : (if x213001_1 = true then (some (([] : List (S39)), 1400)) else (if t236 = 0 then (if t235.toList = a0.toList then (some (x214000_1, 0)) else (some (([] : List (S39)), 1400))) else (some (([] : List (S39)), 1400)))) = some (r1, r2) := H
    have A63 := qas A630
    clear A630
    by_cases c64 : x213001_1 = true
    ·subst c64
     have H1 : (some (([] : List (S39)), 1400)) = some (r1, r2) := by rw [if_pos rfl] at H; exact H
     clear H
     have H := H1
     clear H1
     simp only [Option.some.injEq, Prod.mk.injEq] at H
     obtain ⟨rfl, rfl⟩ := H
     obtain ⟨HGz65, hgz65⟩ := HI212.out
     have hcz65_0 := cellS94_0 HGz65
     have hcz65_1 := cellS94_1 HGz65
     have hfz65_0 := blk_frozen HGz65 0
     have hfz65_1 := blk_frozen HGz65 1
     clear HGz65 hgz65
     go_wp2_with (first | ((with_reducible refine gate_callee (f := 61) rfl ?_); refine goesL_ (some 15) rfl rfl Tryd.func61 (by kernel_rfl) rfl #[.string x213000_1, .string (⟨#[80, 75, 3, 4]⟩ : ByteArray)] rfl (by (try simp only [List.map_toArray, List.map_cons, List.map_nil]); first | done | rfl | (simp only [List.length_drop, List.length_take]; rfl)) ?_; (with_reducible refine (strings_HasPrefix.calls x213000_1 (⟨#[80, 75, 3, 4]⟩ : ByteArray) false _ A5.out).mono ?_); rintro e w' ⟨rfl, ⟨nd, rfl⟩⟩; refine ⟨_, rfl, ?_⟩; (try (rw [drewN_self wr]; generalize hq_ : World.drewN wr _ = wr; have n0_ : Aside0 (Kd.S k39 39 wr w.heap.size (fun _ => True) u214000 x214000_1) := ⟨by rw [← hq_]; exact (by (with_reducible repeat (first | apply Kd.S_alloc | apply Kd.S_drewN | apply Kd.S_drew)); exact HO_214000.out)⟩; have n1_ : Aside0 (wr.heap[gb211]? = some (.cells #[.slice none 0 0] 24 (0, 0))) := ⟨by rw [← hq_]; exact (by (with_reducible repeat (first | refine qkA ?_ _ | refine qkB ?_ | refine qkC ?_ _)); exact BK211.out)⟩; have n2_ : Aside0 (wr.heap[gb213]? = some (.cells #[u214000] 24 (0, 0))) := ⟨by rw [← hq_]; exact (by (with_reducible repeat (first | refine qkA ?_ _ | refine qkB ?_ | refine qkC ?_ _)); exact BK213.out)⟩; have n3_ : Aside0 (IsS94 w wr gb212 x213000_1 true) := ⟨by rw [← hq_]; exact (by repeat (first | (with_reducible first | exact HI212.out | apply IsS94.alloc | apply IsS94.drewN | apply IsS94.drew | apply IsS94.set_0 | apply IsS94.set_1 | apply IsS94.farB (hne := NB212_211.out) | apply IsS94.farB (hne := NB212_213.out)) | exact HI212.out))⟩; have n4_ : Aside0 (Below w.heap.size w wr) := ⟨by rw [← hq_]; exact (by repeat (first | (with_reducible first | exact HB.out | apply qbA | apply qbB | apply qbC | refine below_set ?_ (IsS94.ge HI212.out) | refine below_set ?_ GE211.out | refine below_set ?_ GE213.out) | exact HB.out))⟩; clear HO_214000 BK211 BK213 HI212 HB hq_; have HO_214000 := n0_; have BK211 := n1_; have BK213 := n2_; have HI212 := n3_; have HB := n4_; clear n0_ n1_ n2_ n3_ n4_)); (try (obtain ⟨HGy, hgy⟩ := HI212.out; have hcy0 := cellS94_0 HGy; have hfy0 := blk_frozen HGy 0; have hcy1 := cellS94_1 HGy; have hfy1 := blk_frozen HGy 1; clear HGy hgy)); have hnb66 := NB213_211.out; have hnc66 := NB211_213.out; have hnb67 := NB213_212.out; have hnc67 := NB212_213.out; have hcz68_0 : wr.cell? ⟨gb213, 0, none⟩ = some (u214000) := (blk_cell BK213.out 0).trans rfl; have hfz68_0 := blk_frozen BK213.out 0; obtain ⟨Ao69, co69, eo69⟩ := Kd.S_slice HO_214000.out; subst eo69) | ((with_reducible refine gate_callee (f := 17) rfl ?_); refine goesL_ (some 38) rfl rfl Tryd.func17 (by kernel_rfl) rfl #[.agg #[.slice Ao69 x214000_1.length co69]] rfl (by (try simp only [List.map_toArray, List.map_cons, List.map_nil]); first | done | rfl | (simp only [List.length_drop, List.length_take]; rfl)) ?_; (with_reducible refine (zipput_Put.calls _ _ x214000_1 t235 t236 _ ?side1 ?side2 A63.out).mono ?_); (case side1 => repeat (first | exact (Kd.S_reads' HO_214000.out).2.2 | (with_reducible refine Kd.C_alloc ?_ _) | (with_reducible refine Kd.C_drewN ?_ _) | (with_reducible refine Kd.C_drew ?_))); (case side2 => exact (Kd.S_reads' HO_214000.out).2.1); rintro e w70 ⟨rfl, hb⟩; refine ⟨_, rfl, ?_⟩; have n0_ := qas (Kd.S_below (by (with_reducible repeat (first | apply Kd.S_alloc | apply Kd.S_drewN | apply Kd.S_drew)); exact HO_214000.out) hb); have n1_ := qas (blk_below (g := gb211) (o := .cells #[.slice none 0 0] 24 (0, 0)) (by (with_reducible repeat (first | refine qkA ?_ _ | refine qkB ?_ | refine qkC ?_ _)); exact BK211.out) hb); have n2_ := qas (blk_below (g := gb213) (o := .cells #[.slice Ao69 x214000_1.length co69] 24 (0, 0)) (by (with_reducible repeat (first | refine qkA ?_ _ | refine qkB ?_ | refine qkC ?_ _)); exact BK213.out) hb); have n3_ := qas (IsS94.below (by repeat (first | (with_reducible first | exact HI212.out | apply IsS94.alloc | apply IsS94.drewN | apply IsS94.drew | apply IsS94.set_0 | apply IsS94.set_1 | apply IsS94.farB (hne := NB212_211.out) | apply IsS94.farB (hne := NB212_213.out)) | exact HI212.out)) hb); have n4_ := qas (below_step (by repeat (first | (with_reducible first | exact HB.out | apply qbA | apply qbB | apply qbC | refine below_set ?_ (IsS94.ge HI212.out) | refine below_set ?_ GE211.out | refine below_set ?_ GE213.out) | exact HB.out)) hb); clear HO_214000; clear BK211; clear BK213; clear HI212; clear HB; have HO_214000 := n0_; have BK211 := n1_; have BK213 := n2_; have HI212 := n3_; have HB := n4_; clear n0_ n1_ n2_ n3_ n4_; (try clear hb); (try clear hb2); (try clear hk); (try clear hi); obtain ⟨HGz71, hgz71⟩ := HI212.out; have hcz71_0 := cellS94_0 HGz71; have hcz71_1 := cellS94_1 HGz71; have hfz71_0 := blk_frozen HGz71 0; have hfz71_1 := blk_frozen HGz71 1; clear HGz71 hgz71; have hnb72 := NB211_212.out; have hnc72 := NB212_211.out; have hcz73_0 : w70.cell? ⟨gb211, 0, none⟩ = some (.slice none 0 0) := (blk_cell BK211.out 0).trans rfl; have hfz73_0 := blk_frozen BK211.out 0))
     refine bodyPost_ret (results_ct rfl _ _ gb211 24 #[.slice none 0 0] (0, 0) _ rfl (by (with_reducible repeat (first | refine qkA ?_ _ | refine qkB ?_ | refine qkC ?_ _)); refine blk_put (cs := #[.slice none 0 0]) ?_ 0 _ rfl; (with_reducible repeat (first | refine qkA ?_ _ | refine qkB ?_ | refine qkC ?_ _)); exact BK211.out) Tryd.underlying24 rfl (by kernel_rfl)) rfl ?_
     exact ⟨_, by first | rfl | (simp [errW_none, errW_some] <;> rfl) | (simp [*, errW_none, errW_some] <;> rfl), by first | exact Kd.S_nil _ _ _ _ _ | exact Kd.N_nil _ _ _ _ _ | exact Kd.V_nil _ _ _ _ _ | exact Kd.Q_nil _ _ _ _ _ | exact Kd.R_nil _ _ _ _ _, by repeat (first | (with_reducible first | exact HB.out | apply qbA | apply qbB | apply qbC | refine below_set ?_ (IsS94.ge HI212.out) | refine below_set ?_ GE211.out | refine below_set ?_ GE213.out) | exact HB.out)⟩
    ·replace c64 := Bool.eq_false_iff.mpr c64
     subst c64
     have H1 : (if t236 = 0 then (if t235.toList = a0.toList then (some (x214000_1, 0)) else (some (([] : List (S39)), 1400))) else (some (([] : List (S39)), 1400))) = some (r1, r2) := by rw [if_neg (show ¬ (false = true) by decide)] at H; exact H
     clear H
     have H := H1
     clear H1
     by_cases c74 : t236 = 0
     ·rw [if_pos c74] at H
      have c74b0 : (t236 == 0) = true := beq_iff_eq.mpr c74
      have c74b1 : (t236 != 0) = false := bne_eq_false_iff_eq.mpr c74
      clear c74
      by_cases c75 : t235.toList = a0.toList
      ·rw [if_pos c75] at H
       have c75b0 : (t235.toList == a0.toList) = true := beq_iff_eq.mpr c75
       have c75b1 : (t235.toList != a0.toList) = false := bne_eq_false_iff_eq.mpr c75
       clear c75
       simp only [Option.some.injEq, Prod.mk.injEq] at H
       obtain ⟨rfl, rfl⟩ := H
       obtain ⟨HGz76, hgz76⟩ := HI212.out
       have hcz76_0 := cellS94_0 HGz76
       have hcz76_1 := cellS94_1 HGz76
       have hfz76_0 := blk_frozen HGz76 0
       have hfz76_1 := blk_frozen HGz76 1
       clear HGz76 hgz76
       go_wp2_with (first | ((with_reducible refine gate_callee (f := 61) rfl ?_); refine goesL_ (some 15) rfl rfl Tryd.func61 (by kernel_rfl) rfl #[.string x213000_1, .string (⟨#[80, 75, 3, 4]⟩ : ByteArray)] rfl (by (try simp only [List.map_toArray, List.map_cons, List.map_nil]); first | done | rfl | (simp only [List.length_drop, List.length_take]; rfl)) ?_; (with_reducible refine (strings_HasPrefix.calls x213000_1 (⟨#[80, 75, 3, 4]⟩ : ByteArray) false _ A5.out).mono ?_); rintro e w' ⟨rfl, ⟨nd, rfl⟩⟩; refine ⟨_, rfl, ?_⟩; (try (rw [drewN_self wr]; generalize hq_ : World.drewN wr _ = wr; have n0_ : Aside0 (Kd.S k39 39 wr w.heap.size (fun _ => True) u214000 x214000_1) := ⟨by rw [← hq_]; exact (by (with_reducible repeat (first | apply Kd.S_alloc | apply Kd.S_drewN | apply Kd.S_drew)); exact HO_214000.out)⟩; have n1_ : Aside0 (wr.heap[gb211]? = some (.cells #[.slice none 0 0] 24 (0, 0))) := ⟨by rw [← hq_]; exact (by (with_reducible repeat (first | refine qkA ?_ _ | refine qkB ?_ | refine qkC ?_ _)); exact BK211.out)⟩; have n2_ : Aside0 (wr.heap[gb213]? = some (.cells #[u214000] 24 (0, 0))) := ⟨by rw [← hq_]; exact (by (with_reducible repeat (first | refine qkA ?_ _ | refine qkB ?_ | refine qkC ?_ _)); exact BK213.out)⟩; have n3_ : Aside0 (IsS94 w wr gb212 x213000_1 false) := ⟨by rw [← hq_]; exact (by repeat (first | (with_reducible first | exact HI212.out | apply IsS94.alloc | apply IsS94.drewN | apply IsS94.drew | apply IsS94.set_0 | apply IsS94.set_1 | apply IsS94.farB (hne := NB212_211.out) | apply IsS94.farB (hne := NB212_213.out)) | exact HI212.out))⟩; have n4_ : Aside0 (Below w.heap.size w wr) := ⟨by rw [← hq_]; exact (by repeat (first | (with_reducible first | exact HB.out | apply qbA | apply qbB | apply qbC | refine below_set ?_ (IsS94.ge HI212.out) | refine below_set ?_ GE211.out | refine below_set ?_ GE213.out) | exact HB.out))⟩; clear HO_214000 BK211 BK213 HI212 HB hq_; have HO_214000 := n0_; have BK211 := n1_; have BK213 := n2_; have HI212 := n3_; have HB := n4_; clear n0_ n1_ n2_ n3_ n4_)); (try (obtain ⟨HGy, hgy⟩ := HI212.out; have hcy0 := cellS94_0 HGy; have hfy0 := blk_frozen HGy 0; have hcy1 := cellS94_1 HGy; have hfy1 := blk_frozen HGy 1; clear HGy hgy)); have hnb77 := NB213_211.out; have hnc77 := NB211_213.out; have hnb78 := NB213_212.out; have hnc78 := NB212_213.out; have hcz79_0 : wr.cell? ⟨gb213, 0, none⟩ = some (u214000) := (blk_cell BK213.out 0).trans rfl; have hfz79_0 := blk_frozen BK213.out 0; obtain ⟨Ao80, co80, eo80⟩ := Kd.S_slice HO_214000.out; subst eo80) | ((with_reducible refine gate_callee (f := 17) rfl ?_); refine goesL_ (some 38) rfl rfl Tryd.func17 (by kernel_rfl) rfl #[.agg #[.slice Ao80 x214000_1.length co80]] rfl (by (try simp only [List.map_toArray, List.map_cons, List.map_nil]); first | done | rfl | (simp only [List.length_drop, List.length_take]; rfl)) ?_; (with_reducible refine (zipput_Put.calls _ _ x214000_1 t235 t236 _ ?side1 ?side2 A63.out).mono ?_); (case side1 => repeat (first | exact (Kd.S_reads' HO_214000.out).2.2 | (with_reducible refine Kd.C_alloc ?_ _) | (with_reducible refine Kd.C_drewN ?_ _) | (with_reducible refine Kd.C_drew ?_))); (case side2 => exact (Kd.S_reads' HO_214000.out).2.1); rintro e w81 ⟨rfl, hb⟩; refine ⟨_, rfl, ?_⟩; have n0_ := qas (Kd.S_below (by (with_reducible repeat (first | apply Kd.S_alloc | apply Kd.S_drewN | apply Kd.S_drew)); exact HO_214000.out) hb); have n1_ := qas (blk_below (g := gb211) (o := .cells #[.slice none 0 0] 24 (0, 0)) (by (with_reducible repeat (first | refine qkA ?_ _ | refine qkB ?_ | refine qkC ?_ _)); exact BK211.out) hb); have n2_ := qas (blk_below (g := gb213) (o := .cells #[.slice Ao80 x214000_1.length co80] 24 (0, 0)) (by (with_reducible repeat (first | refine qkA ?_ _ | refine qkB ?_ | refine qkC ?_ _)); exact BK213.out) hb); have n3_ := qas (IsS94.below (by repeat (first | (with_reducible first | exact HI212.out | apply IsS94.alloc | apply IsS94.drewN | apply IsS94.drew | apply IsS94.set_0 | apply IsS94.set_1 | apply IsS94.farB (hne := NB212_211.out) | apply IsS94.farB (hne := NB212_213.out)) | exact HI212.out)) hb); have n4_ := qas (below_step (by repeat (first | (with_reducible first | exact HB.out | apply qbA | apply qbB | apply qbC | refine below_set ?_ (IsS94.ge HI212.out) | refine below_set ?_ GE211.out | refine below_set ?_ GE213.out) | exact HB.out)) hb); clear HO_214000; clear BK211; clear BK213; clear HI212; clear HB; have HO_214000 := n0_; have BK211 := n1_; have BK213 := n2_; have HI212 := n3_; have HB := n4_; clear n0_ n1_ n2_ n3_ n4_; (try clear hb); (try clear hb2); (try clear hk); (try clear hi); obtain ⟨HGz82, hgz82⟩ := HI212.out; have hcz82_0 := cellS94_0 HGz82; have hcz82_1 := cellS94_1 HGz82; have hfz82_0 := blk_frozen HGz82 0; have hfz82_1 := blk_frozen HGz82 1; clear HGz82 hgz82; have hcz83_0 : w81.cell? ⟨gb213, 0, none⟩ = some (.slice Ao80 x214000_1.length co80) := (blk_cell BK213.out 0).trans rfl; have hfz83_0 := blk_frozen BK213.out 0; have hnb84 := NB211_212.out; have hnc84 := NB212_211.out; have hcz85_0 : w81.cell? ⟨gb211, 0, none⟩ = some (.slice none 0 0) := (blk_cell BK211.out 0).trans rfl; have hfz85_0 := blk_frozen BK211.out 0))
       refine bodyPost_ret (results_ct rfl _ _ gb211 24 #[.slice Ao80 x214000_1.length co80] (0, 0) _ rfl (by (with_reducible repeat (first | refine qkA ?_ _ | refine qkB ?_ | refine qkC ?_ _)); refine blk_put (cs := #[.slice none 0 0]) ?_ 0 _ rfl; (with_reducible repeat (first | refine qkA ?_ _ | refine qkB ?_ | refine qkC ?_ _)); exact BK211.out) Tryd.underlying24 rfl (by kernel_rfl)) rfl ?_
       exact ⟨_, by first | rfl | (simp [errW_none, errW_some] <;> rfl) | (simp [*, errW_none, errW_some] <;> rfl), by (with_reducible repeat (first | apply Kd.S_alloc | apply Kd.S_drewN | apply Kd.S_drew)); exact Kd.S_mono (Kd.S_far (p := ⟨gb211, 0, none⟩) (Kd.S_types HO_214000.out BK211.out (by decide)) (fun _ hk => hk.2) (.slice Ao80 x214000_1.length co80)) (fun _ hk => trivial), by repeat (first | (with_reducible first | exact HB.out | apply qbA | apply qbB | apply qbC | refine below_set ?_ (IsS94.ge HI212.out) | refine below_set ?_ GE211.out | refine below_set ?_ GE213.out) | exact HB.out)⟩
      ·rw [if_neg c75] at H
       have c75b0 : (t235.toList == a0.toList) = false := beq_eq_false_iff_ne.mpr c75
       have c75b1 : (t235.toList != a0.toList) = true := bne_iff_ne.mpr c75
       simp only [Option.some.injEq, Prod.mk.injEq] at H
       obtain ⟨rfl, rfl⟩ := H
       obtain ⟨HGz86, hgz86⟩ := HI212.out
       have hcz86_0 := cellS94_0 HGz86
       have hcz86_1 := cellS94_1 HGz86
       have hfz86_0 := blk_frozen HGz86 0
       have hfz86_1 := blk_frozen HGz86 1
       clear HGz86 hgz86
       go_wp2_with (first | ((with_reducible refine gate_callee (f := 61) rfl ?_); refine goesL_ (some 15) rfl rfl Tryd.func61 (by kernel_rfl) rfl #[.string x213000_1, .string (⟨#[80, 75, 3, 4]⟩ : ByteArray)] rfl (by (try simp only [List.map_toArray, List.map_cons, List.map_nil]); first | done | rfl | (simp only [List.length_drop, List.length_take]; rfl)) ?_; (with_reducible refine (strings_HasPrefix.calls x213000_1 (⟨#[80, 75, 3, 4]⟩ : ByteArray) false _ A5.out).mono ?_); rintro e w' ⟨rfl, ⟨nd, rfl⟩⟩; refine ⟨_, rfl, ?_⟩; (try (rw [drewN_self wr]; generalize hq_ : World.drewN wr _ = wr; have n0_ : Aside0 (Kd.S k39 39 wr w.heap.size (fun _ => True) u214000 x214000_1) := ⟨by rw [← hq_]; exact (by (with_reducible repeat (first | apply Kd.S_alloc | apply Kd.S_drewN | apply Kd.S_drew)); exact HO_214000.out)⟩; have n1_ : Aside0 (wr.heap[gb211]? = some (.cells #[.slice none 0 0] 24 (0, 0))) := ⟨by rw [← hq_]; exact (by (with_reducible repeat (first | refine qkA ?_ _ | refine qkB ?_ | refine qkC ?_ _)); exact BK211.out)⟩; have n2_ : Aside0 (wr.heap[gb213]? = some (.cells #[u214000] 24 (0, 0))) := ⟨by rw [← hq_]; exact (by (with_reducible repeat (first | refine qkA ?_ _ | refine qkB ?_ | refine qkC ?_ _)); exact BK213.out)⟩; have n3_ : Aside0 (IsS94 w wr gb212 x213000_1 false) := ⟨by rw [← hq_]; exact (by repeat (first | (with_reducible first | exact HI212.out | apply IsS94.alloc | apply IsS94.drewN | apply IsS94.drew | apply IsS94.set_0 | apply IsS94.set_1 | apply IsS94.farB (hne := NB212_211.out) | apply IsS94.farB (hne := NB212_213.out)) | exact HI212.out))⟩; have n4_ : Aside0 (Below w.heap.size w wr) := ⟨by rw [← hq_]; exact (by repeat (first | (with_reducible first | exact HB.out | apply qbA | apply qbB | apply qbC | refine below_set ?_ (IsS94.ge HI212.out) | refine below_set ?_ GE211.out | refine below_set ?_ GE213.out) | exact HB.out))⟩; clear HO_214000 BK211 BK213 HI212 HB hq_; have HO_214000 := n0_; have BK211 := n1_; have BK213 := n2_; have HI212 := n3_; have HB := n4_; clear n0_ n1_ n2_ n3_ n4_)); (try (obtain ⟨HGy, hgy⟩ := HI212.out; have hcy0 := cellS94_0 HGy; have hfy0 := blk_frozen HGy 0; have hcy1 := cellS94_1 HGy; have hfy1 := blk_frozen HGy 1; clear HGy hgy)); have hnb87 := NB213_211.out; have hnc87 := NB211_213.out; have hnb88 := NB213_212.out; have hnc88 := NB212_213.out; have hcz89_0 : wr.cell? ⟨gb213, 0, none⟩ = some (u214000) := (blk_cell BK213.out 0).trans rfl; have hfz89_0 := blk_frozen BK213.out 0; obtain ⟨Ao90, co90, eo90⟩ := Kd.S_slice HO_214000.out; subst eo90) | ((with_reducible refine gate_callee (f := 17) rfl ?_); refine goesL_ (some 38) rfl rfl Tryd.func17 (by kernel_rfl) rfl #[.agg #[.slice Ao90 x214000_1.length co90]] rfl (by (try simp only [List.map_toArray, List.map_cons, List.map_nil]); first | done | rfl | (simp only [List.length_drop, List.length_take]; rfl)) ?_; (with_reducible refine (zipput_Put.calls _ _ x214000_1 t235 t236 _ ?side1 ?side2 A63.out).mono ?_); (case side1 => repeat (first | exact (Kd.S_reads' HO_214000.out).2.2 | (with_reducible refine Kd.C_alloc ?_ _) | (with_reducible refine Kd.C_drewN ?_ _) | (with_reducible refine Kd.C_drew ?_))); (case side2 => exact (Kd.S_reads' HO_214000.out).2.1); rintro e w91 ⟨rfl, hb⟩; refine ⟨_, rfl, ?_⟩; have n0_ := qas (Kd.S_below (by (with_reducible repeat (first | apply Kd.S_alloc | apply Kd.S_drewN | apply Kd.S_drew)); exact HO_214000.out) hb); have n1_ := qas (blk_below (g := gb211) (o := .cells #[.slice none 0 0] 24 (0, 0)) (by (with_reducible repeat (first | refine qkA ?_ _ | refine qkB ?_ | refine qkC ?_ _)); exact BK211.out) hb); have n2_ := qas (blk_below (g := gb213) (o := .cells #[.slice Ao90 x214000_1.length co90] 24 (0, 0)) (by (with_reducible repeat (first | refine qkA ?_ _ | refine qkB ?_ | refine qkC ?_ _)); exact BK213.out) hb); have n3_ := qas (IsS94.below (by repeat (first | (with_reducible first | exact HI212.out | apply IsS94.alloc | apply IsS94.drewN | apply IsS94.drew | apply IsS94.set_0 | apply IsS94.set_1 | apply IsS94.farB (hne := NB212_211.out) | apply IsS94.farB (hne := NB212_213.out)) | exact HI212.out)) hb); have n4_ := qas (below_step (by repeat (first | (with_reducible first | exact HB.out | apply qbA | apply qbB | apply qbC | refine below_set ?_ (IsS94.ge HI212.out) | refine below_set ?_ GE211.out | refine below_set ?_ GE213.out) | exact HB.out)) hb); clear HO_214000; clear BK211; clear BK213; clear HI212; clear HB; have HO_214000 := n0_; have BK211 := n1_; have BK213 := n2_; have HI212 := n3_; have HB := n4_; clear n0_ n1_ n2_ n3_ n4_; (try clear hb); (try clear hb2); (try clear hk); (try clear hi); obtain ⟨HGz92, hgz92⟩ := HI212.out; have hcz92_0 := cellS94_0 HGz92; have hcz92_1 := cellS94_1 HGz92; have hfz92_0 := blk_frozen HGz92 0; have hfz92_1 := blk_frozen HGz92 1; clear HGz92 hgz92; have hnb93 := NB211_212.out; have hnc93 := NB212_211.out; have hcz94_0 : w91.cell? ⟨gb211, 0, none⟩ = some (.slice none 0 0) := (blk_cell BK211.out 0).trans rfl; have hfz94_0 := blk_frozen BK211.out 0))
       refine bodyPost_ret (results_ct rfl _ _ gb211 24 #[.slice none 0 0] (0, 0) _ rfl (by (with_reducible repeat (first | refine qkA ?_ _ | refine qkB ?_ | refine qkC ?_ _)); refine blk_put (cs := #[.slice none 0 0]) ?_ 0 _ rfl; (with_reducible repeat (first | refine qkA ?_ _ | refine qkB ?_ | refine qkC ?_ _)); exact BK211.out) Tryd.underlying24 rfl (by kernel_rfl)) rfl ?_
       exact ⟨_, by first | rfl | (simp [errW_none, errW_some] <;> rfl) | (simp [*, errW_none, errW_some] <;> rfl), by first | exact Kd.S_nil _ _ _ _ _ | exact Kd.N_nil _ _ _ _ _ | exact Kd.V_nil _ _ _ _ _ | exact Kd.Q_nil _ _ _ _ _ | exact Kd.R_nil _ _ _ _ _, by repeat (first | (with_reducible first | exact HB.out | apply qbA | apply qbB | apply qbC | refine below_set ?_ (IsS94.ge HI212.out) | refine below_set ?_ GE211.out | refine below_set ?_ GE213.out) | exact HB.out)⟩
     ·rw [if_neg c74] at H
      have c74b0 : (t236 == 0) = false := beq_eq_false_iff_ne.mpr c74
      have c74b1 : (t236 != 0) = true := bne_iff_ne.mpr c74
      simp only [Option.some.injEq, Prod.mk.injEq] at H
      obtain ⟨rfl, rfl⟩ := H
      obtain ⟨HGz95, hgz95⟩ := HI212.out
      have hcz95_0 := cellS94_0 HGz95
      have hcz95_1 := cellS94_1 HGz95
      have hfz95_0 := blk_frozen HGz95 0
      have hfz95_1 := blk_frozen HGz95 1
      clear HGz95 hgz95
      go_wp2_with (first | ((with_reducible refine gate_callee (f := 61) rfl ?_); refine goesL_ (some 15) rfl rfl Tryd.func61 (by kernel_rfl) rfl #[.string x213000_1, .string (⟨#[80, 75, 3, 4]⟩ : ByteArray)] rfl (by (try simp only [List.map_toArray, List.map_cons, List.map_nil]); first | done | rfl | (simp only [List.length_drop, List.length_take]; rfl)) ?_; (with_reducible refine (strings_HasPrefix.calls x213000_1 (⟨#[80, 75, 3, 4]⟩ : ByteArray) false _ A5.out).mono ?_); rintro e w' ⟨rfl, ⟨nd, rfl⟩⟩; refine ⟨_, rfl, ?_⟩; (try (rw [drewN_self wr]; generalize hq_ : World.drewN wr _ = wr; have n0_ : Aside0 (Kd.S k39 39 wr w.heap.size (fun _ => True) u214000 x214000_1) := ⟨by rw [← hq_]; exact (by (with_reducible repeat (first | apply Kd.S_alloc | apply Kd.S_drewN | apply Kd.S_drew)); exact HO_214000.out)⟩; have n1_ : Aside0 (wr.heap[gb211]? = some (.cells #[.slice none 0 0] 24 (0, 0))) := ⟨by rw [← hq_]; exact (by (with_reducible repeat (first | refine qkA ?_ _ | refine qkB ?_ | refine qkC ?_ _)); exact BK211.out)⟩; have n2_ : Aside0 (wr.heap[gb213]? = some (.cells #[u214000] 24 (0, 0))) := ⟨by rw [← hq_]; exact (by (with_reducible repeat (first | refine qkA ?_ _ | refine qkB ?_ | refine qkC ?_ _)); exact BK213.out)⟩; have n3_ : Aside0 (IsS94 w wr gb212 x213000_1 false) := ⟨by rw [← hq_]; exact (by repeat (first | (with_reducible first | exact HI212.out | apply IsS94.alloc | apply IsS94.drewN | apply IsS94.drew | apply IsS94.set_0 | apply IsS94.set_1 | apply IsS94.farB (hne := NB212_211.out) | apply IsS94.farB (hne := NB212_213.out)) | exact HI212.out))⟩; have n4_ : Aside0 (Below w.heap.size w wr) := ⟨by rw [← hq_]; exact (by repeat (first | (with_reducible first | exact HB.out | apply qbA | apply qbB | apply qbC | refine below_set ?_ (IsS94.ge HI212.out) | refine below_set ?_ GE211.out | refine below_set ?_ GE213.out) | exact HB.out))⟩; clear HO_214000 BK211 BK213 HI212 HB hq_; have HO_214000 := n0_; have BK211 := n1_; have BK213 := n2_; have HI212 := n3_; have HB := n4_; clear n0_ n1_ n2_ n3_ n4_)); (try (obtain ⟨HGy, hgy⟩ := HI212.out; have hcy0 := cellS94_0 HGy; have hfy0 := blk_frozen HGy 0; have hcy1 := cellS94_1 HGy; have hfy1 := blk_frozen HGy 1; clear HGy hgy)); have hnb96 := NB213_211.out; have hnc96 := NB211_213.out; have hnb97 := NB213_212.out; have hnc97 := NB212_213.out; have hcz98_0 : wr.cell? ⟨gb213, 0, none⟩ = some (u214000) := (blk_cell BK213.out 0).trans rfl; have hfz98_0 := blk_frozen BK213.out 0; obtain ⟨Ao99, co99, eo99⟩ := Kd.S_slice HO_214000.out; subst eo99) | ((with_reducible refine gate_callee (f := 17) rfl ?_); refine goesL_ (some 38) rfl rfl Tryd.func17 (by kernel_rfl) rfl #[.agg #[.slice Ao99 x214000_1.length co99]] rfl (by (try simp only [List.map_toArray, List.map_cons, List.map_nil]); first | done | rfl | (simp only [List.length_drop, List.length_take]; rfl)) ?_; (with_reducible refine (zipput_Put.calls _ _ x214000_1 t235 t236 _ ?side1 ?side2 A63.out).mono ?_); (case side1 => repeat (first | exact (Kd.S_reads' HO_214000.out).2.2 | (with_reducible refine Kd.C_alloc ?_ _) | (with_reducible refine Kd.C_drewN ?_ _) | (with_reducible refine Kd.C_drew ?_))); (case side2 => exact (Kd.S_reads' HO_214000.out).2.1); rintro e w100 ⟨rfl, hb⟩; refine ⟨_, rfl, ?_⟩; have n0_ := qas (Kd.S_below (by (with_reducible repeat (first | apply Kd.S_alloc | apply Kd.S_drewN | apply Kd.S_drew)); exact HO_214000.out) hb); have n1_ := qas (blk_below (g := gb211) (o := .cells #[.slice none 0 0] 24 (0, 0)) (by (with_reducible repeat (first | refine qkA ?_ _ | refine qkB ?_ | refine qkC ?_ _)); exact BK211.out) hb); have n2_ := qas (blk_below (g := gb213) (o := .cells #[.slice Ao99 x214000_1.length co99] 24 (0, 0)) (by (with_reducible repeat (first | refine qkA ?_ _ | refine qkB ?_ | refine qkC ?_ _)); exact BK213.out) hb); have n3_ := qas (IsS94.below (by repeat (first | (with_reducible first | exact HI212.out | apply IsS94.alloc | apply IsS94.drewN | apply IsS94.drew | apply IsS94.set_0 | apply IsS94.set_1 | apply IsS94.farB (hne := NB212_211.out) | apply IsS94.farB (hne := NB212_213.out)) | exact HI212.out)) hb); have n4_ := qas (below_step (by repeat (first | (with_reducible first | exact HB.out | apply qbA | apply qbB | apply qbC | refine below_set ?_ (IsS94.ge HI212.out) | refine below_set ?_ GE211.out | refine below_set ?_ GE213.out) | exact HB.out)) hb); clear HO_214000; clear BK211; clear BK213; clear HI212; clear HB; have HO_214000 := n0_; have BK211 := n1_; have BK213 := n2_; have HI212 := n3_; have HB := n4_; clear n0_ n1_ n2_ n3_ n4_; (try clear hb); (try clear hb2); (try clear hk); (try clear hi); obtain ⟨HGz101, hgz101⟩ := HI212.out; have hcz101_0 := cellS94_0 HGz101; have hcz101_1 := cellS94_1 HGz101; have hfz101_0 := blk_frozen HGz101 0; have hfz101_1 := blk_frozen HGz101 1; clear HGz101 hgz101; have hnb102 := NB211_212.out; have hnc102 := NB212_211.out; have hcz103_0 : w100.cell? ⟨gb211, 0, none⟩ = some (.slice none 0 0) := (blk_cell BK211.out 0).trans rfl; have hfz103_0 := blk_frozen BK211.out 0))
      refine bodyPost_ret (results_ct rfl _ _ gb211 24 #[.slice none 0 0] (0, 0) _ rfl (by (with_reducible repeat (first | refine qkA ?_ _ | refine qkB ?_ | refine qkC ?_ _)); refine blk_put (cs := #[.slice none 0 0]) ?_ 0 _ rfl; (with_reducible repeat (first | refine qkA ?_ _ | refine qkB ?_ | refine qkC ?_ _)); exact BK211.out) Tryd.underlying24 rfl (by kernel_rfl)) rfl ?_
      exact ⟨_, by first | rfl | (simp [errW_none, errW_some] <;> rfl) | (simp [*, errW_none, errW_some] <;> rfl), by first | exact Kd.S_nil _ _ _ _ _ | exact Kd.N_nil _ _ _ _ _ | exact Kd.V_nil _ _ _ _ _ | exact Kd.Q_nil _ _ _ _ _ | exact Kd.R_nil _ _ _ _ _, by repeat (first | (with_reducible first | exact HB.out | apply qbA | apply qbB | apply qbC | refine below_set ?_ (IsS94.ge HI212.out) | refine below_set ?_ GE211.out | refine below_set ?_ GE213.out) | exact HB.out)⟩

end Go.Proofs.YtneogampbohfnaaDoor.ZG
