-- Printed out of the translation by a program of this session.
import Derived.Test.YtneogampbohfnaaDoorZG0
import Derived.Test.YtneogampbohfnaaDoorZG7
namespace Go.Proofs.YtneogampbohfnaaDoor.ZG
open Go.Proofs.YtneogampbohfnaaDoor.ZB (S39 z39 k39 k39_open k39_openM k39_mk k39_mkM rd_T39 at_T39)
open Go.RowKit Go.Proofs.YtneogampbohfnaaDoorW.PrintWords Go.Proofs.YtneogampbohfnaaDoorW.PrintLast Go.Proofs.YtneogampbohfnaaDoorW.PrintMore
attribute [local go_sem] max2_int min2_int max_two min_two max_three min_three max_four min_four   -- for this text's walks alone
set_option linter.unusedVariables false
set_option linter.unusedSimpArgs false

/-! ### zipget_Get: function 28 -/
def zipget_Get.l0 : Nat → ByteArray → ByteArray → Bool → List (S39) → Option ((List (S39)) × Int)
 | 0, _, _, _, _ => none
 | k + 1, x0, x213000, x213001, x214000 => (strings_HasPrefix.f x213000 (⟨#[80, 75, 3, 4]⟩ : ByteArray)).bind fun t214 => (if t214 = true then (if x213001 = true then ((zipput_Put.f x214000).bind fun bt215 => (some (([] : List (S39)), 1400))) else (if (x214000.length : Int) < 6 then ((zipget_entry.f k x213000 x213001).bind fun bt217 => (if x214000.length < 1353245080339 then (zipget_Get.l0 k x0 bt217.2.2.2.2.2.2.2.2.2.1 bt217.2.2.2.2.2.2.2.2.2.2 (x214000 ++ [(⟨bt217.1, bt217.2.1, bt217.2.2.1, bt217.2.2.2.1, bt217.2.2.2.2.1, bt217.2.2.2.2.2.1, bt217.2.2.2.2.2.2.1, bt217.2.2.2.2.2.2.2.1, bt217.2.2.2.2.2.2.2.2.1⟩ : S39)])) else (none))) else ((zipput_Put.f x214000).bind fun bt233 => (if bt233.2 = 0 then (if bt233.1.toList = x0.toList then (some (x214000, 0)) else (some (([] : List (S39)), 1400))) else (some (([] : List (S39)), 1400)))))) else ((zipput_Put.f x214000).bind fun bt235 => (if x213001 = true then (some (([] : List (S39)), 1400)) else (if bt235.2 = 0 then (if bt235.1.toList = x0.toList then (some (x214000, 0)) else (some (([] : List (S39)), 1400))) else (some (([] : List (S39)), 1400))))))
def zipget_Get.f (k : Nat) (a0 : ByteArray) : Option ((List (S39)) × Int) := zipget_Get.l0 k a0 a0 false ([] : List (S39))
theorem zipget_Get.mono_l : ∀ k, (∀ y0 y1 y2 y3, LeO (zipget_Get.l0 k y0 y1 y2 y3) (zipget_Get.l0 (k + 1) y0 y1 y2 y3))
 | 0 => fun _ _ _ _ r h => by simp [zipget_Get.l0] at h
 | k + 1 => by
  have ih0 := zipget_Get.mono_l k
  ·intro y0 y1 y2 y3
   unfold zipget_Get.l0
   repeat' first
   | (with_reducible exact ih0 _ _ _ _)
   | (with_reducible exact zipget_entry.mono _ _ _)
   | (with_reducible exact LeO.refl _)
   | (with_reducible exact LeO.none _)
   | (with_reducible refine LeO.ite ?_ ?_)
   | (with_reducible refine LeO.bind ?_ (fun _ => ?_))
   | exact ih0 _ _ _ _
   | exact zipget_entry.mono _ _ _
   | exact LeO.none _
   | refine LeO.ite ?_ ?_
   | refine LeO.bind ?_ (fun _ => ?_)
theorem zipget_Get.mono : ∀ a0 k, LeO (zipget_Get.f k a0) (zipget_Get.f (k + 1) a0) := by
 intro a0 k
 have ih0 := zipget_Get.mono_l k
 unfold zipget_Get.f
 repeat' first
   | (with_reducible exact ih0 _ _ _ _)
   | (with_reducible exact zipget_entry.mono _ _ _)
   | (with_reducible exact LeO.refl _)
   | (with_reducible exact LeO.none _)
   | (with_reducible refine LeO.ite ?_ ?_)
   | (with_reducible refine LeO.bind ?_ (fun _ => ?_))
   | exact ih0 _ _ _ _
   | exact zipget_entry.mono _ _ _
   | exact LeO.none _
   | refine LeO.ite ?_ ?_
   | refine LeO.bind ?_ (fun _ => ?_)
def zipget_Get.T4 : Bool × List (List Nat × List Nat) := (true, [([], []), ([0], [0]), ([], []), ([2], [2]), ([3], [3]), ([1, 4, 3], [1, 4]), ([0, 1, 2, 3, 4, 5], []), ([6, 5, 5, 0, 1, 2, 3, 4, 5], [5, 6])])
def zipget_Get.B4 : List Nat := [0, 1, 0, 4, 12, 31, 63, 127]
theorem zipget_Get.tab4 : rtab .any (opsOf Tryd.f28 4) = zipget_Get.T4 := by kernel_rfl
theorem zipget_Get.bits4 : waitsOk zipget_Get.T4.2 zipget_Get.B4 = true := by kernel_rfl
set_option maxHeartbeats 8000000 in
set_option maxRecDepth 100000 in
theorem zipget_Get.calls (k : Nat) (a0 : ByteArray) (r1 : List (S39)) (r2 : Int) (w : World) (h : zipget_Get.f k a0 = some (r1, r2)) :
  Calls Tryd.prog 28 #[.string a0] w fun e w' => ∃ v0_ : Value, e = .returned (.tuple #[.agg #[v0_], .int .i64 r2]) ∧ Kd.S k39 39 w' w.heap.size (fun _ => True) v0_ r1 ∧ Below w.heap.size w w' := by
 have hu24 := Tryd.underlying24
 have hu94 := Tryd.underlying94
 have HB := qas (Below.refl w.heap.size w)
 have H : (zipget_Get.l0 k a0 a0 false ([] : List (S39))) = some (r1, r2) := h
 clear h
 have H' := qas H
 clear H
 go_enter Tryd.func28, Tryd.ntmps28
 go_wp2_with (first | ((with_reducible refine gate_dst (N := 2) rfl ?_); (try (refine gate_guard (by rfl) ?_; dsimp only)); refine box_event ?hg (N := 2) ?hd (cs := #[.slice none 0 0]) (t := 24) ?hr ?_; (case hd => rfl); (case hg => rfl); (case hr => first | (go_simp; done) | (go_simp; rfl)); intro gb211 hg w2 hbox hb; have n0_ := qas (below_step (by repeat (first | (with_reducible first | exact HB.out | apply qbA | apply qbB | apply qbC) | exact HB.out)) hb); have n1_ := qas (hbox); have n2_ := qas ((by rw [hg]; exact (below_size (by repeat (first | (with_reducible first | exact HB.out | apply qbA | apply qbB | apply qbC) | exact HB.out))) : w.heap.size ≤ gb211)); have n3_ := qas ((by rw [hg]; exact (below_size (by repeat (first | (with_reducible first | exact HB.out | apply qbA | apply qbB | apply qbC) | exact HB.out))) : w.heap.size ≤ gb211)); clear HB; have HB := n0_; have BK211 := n1_; have GW211 := n2_; have GE211 := n3_; clear n0_ n1_ n2_ n3_; clear hb hbox hg) | ((with_reducible refine gate_dst (N := 10) rfl ?_); (try (refine gate_guard (by rfl) ?_; dsimp only)); refine box_event ?hg (N := 10) ?hd (cs := #[.string a0, .bool false]) (t := 94) ?hr ?_; (case hd => rfl); (case hg => rfl); (case hr => first | (go_simp; done) | (go_simp; rfl)); intro gb212 hg w3 hbox hb; have n0_ := qas (blk_below (g := gb211) (o := .cells #[.slice none 0 0] 24 (0, 0)) (by (with_reducible repeat (first | refine qkA ?_ _ | refine qkB ?_ | refine qkC ?_ _)); exact BK211.out) hb); have n1_ := qas (below_step (by repeat (first | (with_reducible first | exact HB.out | apply qbA | apply qbB | apply qbC | refine below_set ?_ GE211.out) | exact HB.out)) hb); have n2_ := qas (hbox); have n3_ := qas ((by rw [hg]; exact (below_size (by repeat (first | (with_reducible first | exact HB.out | apply qbA | apply qbB | apply qbC | refine below_set ?_ GE211.out) | exact HB.out))) : w.heap.size ≤ gb212)); have n4_ := qas ((by rw [hg]; exact (below_size (by repeat (first | (with_reducible first | exact HB.out | apply qbA | apply qbB | apply qbC | refine below_set ?_ GE211.out) | exact HB.out))) : w.heap.size ≤ gb212)); have n5_ := qas ((by rw [hg]; exact Nat.ne_of_lt (blk_lt (g := gb211) (o := .cells #[.slice none 0 0] 24 (0, 0)) (by (with_reducible repeat (first | refine qkA ?_ _ | refine qkB ?_ | refine qkC ?_ _)); exact BK211.out)) : gb211 ≠ gb212)); have n6_ := qas ((by rw [hg]; exact Nat.ne_of_gt (blk_lt (g := gb211) (o := .cells #[.slice none 0 0] 24 (0, 0)) (by (with_reducible repeat (first | refine qkA ?_ _ | refine qkB ?_ | refine qkC ?_ _)); exact BK211.out)) : gb212 ≠ gb211)); clear BK211; clear HB; have BK211 := n0_; have HB := n1_; have BK212 := n2_; have GW212 := n3_; have GE212 := n4_; have NB211_212 := n5_; have NB212_211 := n6_; clear n0_ n1_ n2_ n3_ n4_ n5_ n6_; clear hb hbox hg; have HI212 := qas (show IsS94 w w3 gb212 a0 false from ⟨BK212.out, GE212.out⟩); clear BK212) | ((with_reducible refine gate_dst (N := 5) rfl ?_); (try (refine gate_guard (by rfl) ?_; dsimp only)); refine box_event ?hg (N := 5) ?hd (cs := #[.slice none 0 0]) (t := 24) ?hr ?_; (case hd => rfl); (case hg => rfl); (case hr => first | (go_simp; done) | (go_simp; rfl)); intro gb213 hg w4 hbox hb; have n0_ := qas (blk_below (g := gb211) (o := .cells #[.slice none 0 0] 24 (0, 0)) (by (with_reducible repeat (first | refine qkA ?_ _ | refine qkB ?_ | refine qkC ?_ _)); exact BK211.out) hb); have n1_ := qas (IsS94.below (by repeat (first | (with_reducible first | exact HI212.out | apply IsS94.alloc | apply IsS94.drewN | apply IsS94.drew | apply IsS94.set_0 | apply IsS94.set_1 | apply IsS94.farB (hne := NB212_211.out)) | exact HI212.out)) hb); have n2_ := qas (below_step (by repeat (first | (with_reducible first | exact HB.out | apply qbA | apply qbB | apply qbC | refine below_set ?_ (IsS94.ge HI212.out) | refine below_set ?_ GE211.out) | exact HB.out)) hb); have n3_ := qas (hbox); have n4_ := qas ((by rw [hg]; exact (below_size (by repeat (first | (with_reducible first | exact HB.out | apply qbA | apply qbB | apply qbC | refine below_set ?_ (IsS94.ge HI212.out) | refine below_set ?_ GE211.out) | exact HB.out))) : w.heap.size ≤ gb213)); have n5_ := qas ((by rw [hg]; exact (below_size (by repeat (first | (with_reducible first | exact HB.out | apply qbA | apply qbB | apply qbC | refine below_set ?_ (IsS94.ge HI212.out) | refine below_set ?_ GE211.out) | exact HB.out))) : w.heap.size ≤ gb213)); have n6_ := qas ((by rw [hg]; exact Nat.ne_of_lt (blk_lt (g := gb211) (o := .cells #[.slice none 0 0] 24 (0, 0)) (by (with_reducible repeat (first | refine qkA ?_ _ | refine qkB ?_ | refine qkC ?_ _)); exact BK211.out)) : gb211 ≠ gb213)); have n7_ := qas ((by rw [hg]; exact Nat.ne_of_gt (blk_lt (g := gb211) (o := .cells #[.slice none 0 0] 24 (0, 0)) (by (with_reducible repeat (first | refine qkA ?_ _ | refine qkB ?_ | refine qkC ?_ _)); exact BK211.out)) : gb213 ≠ gb211)); have n8_ := qas ((by rw [hg]; exact Nat.ne_of_lt (IsS94.lt (show IsS94 w _ gb212 a0 false from by repeat (first | (with_reducible first | exact HI212.out | apply IsS94.alloc | apply IsS94.drewN | apply IsS94.drew | apply IsS94.set_0 | apply IsS94.set_1 | apply IsS94.farB (hne := NB212_211.out)) | exact HI212.out))) : gb212 ≠ gb213)); have n9_ := qas ((by rw [hg]; exact Nat.ne_of_gt (IsS94.lt (show IsS94 w _ gb212 a0 false from by repeat (first | (with_reducible first | exact HI212.out | apply IsS94.alloc | apply IsS94.drewN | apply IsS94.drew | apply IsS94.set_0 | apply IsS94.set_1 | apply IsS94.farB (hne := NB212_211.out)) | exact HI212.out))) : gb213 ≠ gb212)); clear BK211; clear HI212; clear HB; have BK211 := n0_; have HI212 := n1_; have HB := n2_; have BK213 := n3_; have GW213 := n4_; have GE213 := n5_; have NB211_213 := n6_; have NB213_211 := n7_; have NB212_213 := n8_; have NB213_212 := n9_; clear n0_ n1_ n2_ n3_ n4_ n5_ n6_ n7_ n8_ n9_; clear hb hbox hg))
 (try simp only [Act.put, qsA, qsB, qsC])
 go_loopg [] k (fun kq w' => ∃ (x213000_1 : ByteArray) (x213001_1 : Bool) (x214000_1 : List (S39)) (u214000 : Value), Aside0 (zipget_Get.l0 kq a0 x213000_1 x213001_1 x214000_1 = some (r1, r2)) ∧ Aside0 (kq ≤ k) ∧ Aside0 (Kd.S k39 39 w' w.heap.size (fun _ => True) u214000 x214000_1) ∧ Aside0 (w'.heap[gb211]? = some (.cells #[(.slice none 0 0)] 24 (0, 0))) ∧ Aside0 (w'.heap[gb213]? = some (.cells #[u214000] 24 (0, 0))) ∧ Aside0 (IsS94 w w' gb212 x213000_1 x213001_1) ∧ Aside0 (Below w.heap.size w w'))
 case atStart => exact ⟨(a0), (false), (([] : List (S39))), (.slice none 0 0), H', ⟨Nat.le_refl _⟩, ⟨by first | exact Kd.S_nil _ _ _ _ _ | exact Kd.N_nil _ _ _ _ _ | exact Kd.V_nil _ _ _ _ _ | exact Kd.Q_nil _ _ _ _ _ | exact Kd.R_nil _ _ _ _ _⟩, ⟨by (with_reducible repeat (first | refine qkA ?_ _ | refine qkB ?_ | refine qkC ?_ _)); exact BK211.out⟩, ⟨by (with_reducible repeat (first | refine qkA ?_ _ | refine qkB ?_ | refine qkC ?_ _)); exact BK213.out⟩, ⟨by repeat (first | (with_reducible first | exact HI212.out | apply IsS94.alloc | apply IsS94.drewN | apply IsS94.drew | apply IsS94.set_0 | apply IsS94.set_1 | apply IsS94.farB (hne := NB212_211.out) | apply IsS94.farB (hne := NB212_213.out)) | exact HI212.out)⟩, ⟨by repeat (first | (with_reducible first | exact HB.out | apply qbA | apply qbB | apply qbC | refine below_set ?_ (IsS94.ge HI212.out) | refine below_set ?_ GE211.out | refine below_set ?_ GE213.out) | exact HB.out)⟩⟩
 case round =>
  clear H'
  try clear c2
  try clear p2
  obtain ⟨x213000_1, x213001_1, x214000_1, u214000, HA, HK1, HO_214000, BK211, BK213, HI212, HB⟩ := hrel
  cases gk with
  | zero => exact absurd HA.out (by simp [zipget_Get.l0])
  | succ k1 =>
   have H := HA.out
   clear HA
   simp only [zipget_Get.l0] at H
   replace H := Option.bind_eq_some_iff.mp H
   obtain ⟨t214, A50, H⟩ := H
   replace H : (if t214 = true then (if x213001_1 = true then ((zipput_Put.f x214000_1).bind fun bt215 => (some (([] : List (S39)), 1400))) else (if (x214000_1.length : Int) < 6 then ((zipget_entry.f k1 x213000_1 x213001_1).bind fun bt217 => (if x214000_1.length < 1353245080339 then (zipget_Get.l0 k1 a0 bt217.2.2.2.2.2.2.2.2.2.1 bt217.2.2.2.2.2.2.2.2.2.2 (x214000_1 ++ [(⟨bt217.1, bt217.2.1, bt217.2.2.1, bt217.2.2.2.1, bt217.2.2.2.2.1, bt217.2.2.2.2.2.1, bt217.2.2.2.2.2.2.1, bt217.2.2.2.2.2.2.2.1, bt217.2.2.2.2.2.2.2.2.1⟩ : S39)])) else (none))) else ((zipput_Put.f x214000_1).bind fun bt233 => (if bt233.2 = 0 then (if bt233.1.toList = a0.toList then (some (x214000_1, 0)) else (some (([] : List (S39)), 1400))) else (some (([] : List (S39)), 1400)))))) else ((zipput_Put.f x214000_1).bind fun bt235 => (if x213001_1 = true then (some (([] : List (S39)), 1400)) else (if bt235.2 = 0 then (if bt235.1.toList = a0.toList then (some (x214000_1, 0)) else (some (([] : List (S39)), 1400))) else (some (([] : List (S39)), 1400)))))) = some (r1, r2) := H
   have A5 := qas A50
   clear A50
   by_cases c6 : t214 = true
   rotate_left
   ·replace c6 := Bool.eq_false_iff.mpr c6
    subst c6
    have H1 : ((zipput_Put.f x214000_1).bind fun bt235 => (if x213001_1 = true then (some (([] : List (S39)), 1400)) else (if bt235.2 = 0 then (if bt235.1.toList = a0.toList then (some (x214000_1, 0)) else (some (([] : List (S39)), 1400))) else (some (([] : List (S39)), 1400))))) = some (r1, r2) := by rw [if_neg (show ¬ (false = true) by decide)] at H; exact H
    clear H
    have H := H1
    clear H1
    replace H := Option.bind_eq_some_iff.mp H
    obtain ⟨⟨t235, t236⟩, A630, H⟩ := H
    replace H : (if x213001_1 = true then (some (([] : List (S39)), 1400)) else (if t236 = 0 then (if t235.toList = a0.toList then (some (x214000_1, 0)) else (some (([] : List (S39)), 1400))) else (some (([] : List (S39)), 1400)))) = some (r1, r2) := H
    have A63 := qas A630
    clear A630
    by_cases c64 : x213001_1 = true
    ·subst c64
     have H1 : (some (([] : List (S39)), 1400)) = some (r1, r2) := by rw [if_pos rfl] at H; exact H
     clear H
     have H := H1
     clear H1
     simp only [Option.some.injEq, Prod.mk.injEq] at H
     obtain ⟨rfl, rfl⟩ := H
     obtain ⟨HGz65, hgz65⟩ := HI212.out
     have hcz65_0 := cellS94_0 HGz65
     have hcz65_1 := cellS94_1 HGz65
     have hfz65_0 := blk_frozen HGz65 0
     have hfz65_1 := blk_frozen HGz65 1
     clear HGz65 hgz65
     go_wp2_with (first | ((with_reducible refine gate_callee (f := 61) rfl ?_); refine goesL_ (some 15) rfl rfl Tryd.func61 (by kernel_rfl) rfl #[.string x213000_1, .string (⟨#[80, 75, 3, 4]⟩ : ByteArray)] rfl (by (try simp only [List.map_toArray, List.map_cons, List.map_nil]); first | done | rfl | (simp only [List.length_drop, List.length_take]; rfl)) ?_; (with_reducible refine (strings_HasPrefix.calls x213000_1 (⟨#[80, 75, 3, 4]⟩ : ByteArray) false _ A5.out).mono ?_); rintro e w' ⟨rfl, ⟨nd, rfl⟩⟩; refine ⟨_, rfl, ?_⟩; (try (rw [drewN_self wr]; generalize hq_ : World.drewN wr _ = wr; have n0_ : Aside0 (Kd.S k39 39 wr w.heap.size (fun _ => True) u214000 x214000_1) := ⟨by rw [← hq_]; exact (by (with_reducible repeat (first | apply Kd.S_alloc | apply Kd.S_drewN | apply Kd.S_drew)); exact HO_214000.out)⟩; have n1_ : Aside0 (wr.heap[gb211]? = some (.cells #[.slice none 0 0] 24 (0, 0))) := ⟨by rw [← hq_]; exact (by (with_reducible repeat (first | refine qkA ?_ _ | refine qkB ?_ | refine qkC ?_ _)); exact BK211.out)⟩; have n2_ : Aside0 (wr.heap[gb213]? = some (.cells #[u214000] 24 (0, 0))) := ⟨by rw [← hq_]; exact (by (with_reducible repeat (first | refine qkA ?_ _ | refine qkB ?_ | refine qkC ?_ _)); exact BK213.out)⟩; have n3_ : Aside0 (IsS94 w wr gb212 x213000_1 true) := ⟨by rw [← hq_]; exact (by repeat (first | (with_reducible first | exact HI212.out | apply IsS94.alloc | apply IsS94.drewN | apply IsS94.drew | apply IsS94.set_0 | apply IsS94.set_1 | apply IsS94.farB (hne := NB212_211.out) | apply IsS94.farB (hne := NB212_213.out)) | exact HI212.out))⟩; have n4_ : Aside0 (Below w.heap.size w wr) := ⟨by rw [← hq_]; exact (by repeat (first | (with_reducible first | exact HB.out | apply qbA | apply qbB | apply qbC | refine below_set ?_ (IsS94.ge HI212.out) | refine below_set ?_ GE211.out | refine below_set ?_ GE213.out) | exact HB.out))⟩; clear HO_214000 BK211 BK213 HI212 HB hq_; have HO_214000 := n0_; have BK211 := n1_; have BK213 := n2_; have HI212 := n3_; have HB := n4_; clear n0_ n1_ n2_ n3_ n4_)); (try (obtain ⟨HGy, hgy⟩ := HI212.out; have hcy0 := cellS94_0 HGy; have hfy0 := blk_frozen HGy 0; have hcy1 := cellS94_1 HGy; have hfy1 := blk_frozen HGy 1; clear HGy hgy)); have hnb66 := NB213_211.out; have hnc66 := NB211_213.out; have hnb67 := NB213_212.out; have hnc67 := NB212_213.out; have hcz68_0 : wr.cell? ⟨gb213, 0, none⟩ = some (u214000) := (blk_cell BK213.out 0).trans rfl; have hfz68_0 := blk_frozen BK213.out 0; obtain ⟨Ao69, co69, eo69⟩ := Kd.S_slice HO_214000.out; subst eo69) | ((with_reducible refine gate_callee (f := 17) rfl ?_); refine goesL_ (some 38) rfl rfl Tryd.func17 (by kernel_rfl) rfl #[.agg #[.slice Ao69 x214000_1.length co69]] rfl (by (try simp only [List.map_toArray, List.map_cons, List.map_nil]); first | done | rfl | (simp only [List.length_drop, List.length_take]; rfl)) ?_; (with_reducible refine (zipput_Put.calls _ _ x214000_1 t235 t236 _ ?side1 ?side2 A63.out).mono ?_); (case side1 => repeat (first | exact (Kd.S_reads' HO_214000.out).2.2 | (with_reducible refine Kd.C_alloc ?_ _) | (with_reducible refine Kd.C_drewN ?_ _) | (with_reducible refine Kd.C_drew ?_))); (case side2 => exact (Kd.S_reads' HO_214000.out).2.1); rintro e w70 ⟨rfl, hb⟩; refine ⟨_, rfl, ?_⟩; have n0_ := qas (Kd.S_below (by (with_reducible repeat (first | apply Kd.S_alloc | apply Kd.S_drewN | apply Kd.S_drew)); exact HO_214000.out) hb); have n1_ := qas (blk_below (g := gb211) (o := .cells #[.slice none 0 0] 24 (0, 0)) (by (with_reducible repeat (first | refine qkA ?_ _ | refine qkB ?_ | refine qkC ?_ _)); exact BK211.out) hb); have n2_ := qas (blk_below (g := gb213) (o := .cells #[.slice Ao69 x214000_1.length co69] 24 (0, 0)) (by (with_reducible repeat (first | refine qkA ?_ _ | refine qkB ?_ | refine qkC ?_ _)); exact BK213.out) hb); have n3_ := qas (IsS94.below (by repeat (first | (with_reducible first | exact HI212.out | apply IsS94.alloc | apply IsS94.drewN | apply IsS94.drew | apply IsS94.set_0 | apply IsS94.set_1 | apply IsS94.farB (hne := NB212_211.out) | apply IsS94.farB (hne := NB212_213.out)) | exact HI212.out)) hb); have n4_ := qas (below_step (by repeat (first | (with_reducible first | exact HB.out | apply qbA | apply qbB | apply qbC | refine below_set ?_ (IsS94.ge HI212.out) | refine below_set ?_ GE211.out | refine below_set ?_ GE213.out) | exact HB.out)) hb); clear HO_214000; clear BK211; clear BK213; clear HI212; clear HB; have HO_214000 := n0_; have BK211 := n1_; have BK213 := n2_; have HI212 := n3_; have HB := n4_; clear n0_ n1_ n2_ n3_ n4_; (try clear hb); (try clear hb2); (try clear hk); (try clear hi); obtain ⟨HGz71, hgz71⟩ := HI212.out; have hcz71_0 := cellS94_0 HGz71; have hcz71_1 := cellS94_1 HGz71; have hfz71_0 := blk_frozen HGz71 0; have hfz71_1 := blk_frozen HGz71 1; clear HGz71 hgz71; have hnb72 := NB211_212.out; have hnc72 := NB212_211.out; have hcz73_0 : w70.cell? ⟨gb211, 0, none⟩ = some (.slice none 0 0) := (blk_cell BK211.out 0).trans rfl; have hfz73_0 := blk_frozen BK211.out 0))
     refine bodyPost_ret (results_ct rfl _ _ gb211 24 #[.slice none 0 0] (0, 0) _ rfl (by (with_reducible repeat (first | refine qkA ?_ _ | refine qkB ?_ | refine qkC ?_ _)); refine blk_put (cs := #[.slice none 0 0]) ?_ 0 _ rfl; (with_reducible repeat (first | refine qkA ?_ _ | refine qkB ?_ | refine qkC ?_ _)); exact BK211.out) Tryd.underlying24 rfl (by kernel_rfl)) rfl ?_
     exact ⟨_, by first | rfl | (simp [errW_none, errW_some] <;> rfl) | (simp [*, errW_none, errW_some] <;> rfl), by first | exact Kd.S_nil _ _ _ _ _ | exact Kd.N_nil _ _ _ _ _ | exact Kd.V_nil _ _ _ _ _ | exact Kd.Q_nil _ _ _ _ _ | exact Kd.R_nil _ _ _ _ _, by repeat (first | (with_reducible first | exact HB.out | apply qbA | apply qbB | apply qbC | refine below_set ?_ (IsS94.ge HI212.out) | refine below_set ?_ GE211.out | refine below_set ?_ GE213.out) | exact HB.out)⟩
    replace c64 := Bool.eq_false_iff.mpr c64
    subst c64
    have H1 : (if t236 = 0 then (if t235.toList = a0.toList then (some (x214000_1, 0)) else (some (([] : List (S39)), 1400))) else (some (([] : List (S39)), 1400))) = some (r1, r2) := by rw [if_neg (show ¬ (false = true) by decide)] at H; exact H
    clear H
    have H := H1
    clear H1
    by_cases c74 : t236 = 0
    rotate_left
    ·rw [if_neg c74] at H
     have c74b0 : (t236 == 0) = false := beq_eq_false_iff_ne.mpr c74
     have c74b1 : (t236 != 0) = true := bne_iff_ne.mpr c74
     simp only [Option.some.injEq, Prod.mk.injEq] at H
     obtain ⟨rfl, rfl⟩ := H
     obtain ⟨HGz95, hgz95⟩ := HI212.out
     have hcz95_0 := cellS94_0 HGz95
     have hcz95_1 := cellS94_1 HGz95
     have hfz95_0 := blk_frozen HGz95 0
     have hfz95_1 := blk_frozen HGz95 1
     clear HGz95 hgz95
     go_wp2_with (first | ((with_reducible refine gate_callee (f := 61) rfl ?_); refine goesL_ (some 15) rfl rfl Tryd.func61 (by kernel_rfl) rfl #[.string x213000_1, .string (⟨#[80, 75, 3, 4]⟩ : ByteArray)] rfl (by (try simp only [List.map_toArray, List.map_cons, List.map_nil]); first | done | rfl | (simp only [List.length_drop, List.length_take]; rfl)) ?_; (with_reducible refine (strings_HasPrefix.calls x213000_1 (⟨#[80, 75, 3, 4]⟩ : ByteArray) false _ A5.out).mono ?_); rintro e w' ⟨rfl, ⟨nd, rfl⟩⟩; refine ⟨_, rfl, ?_⟩; (try (rw [drewN_self wr]; generalize hq_ : World.drewN wr _ = wr; have n0_ : Aside0 (Kd.S k39 39 wr w.heap.size (fun _ => True) u214000 x214000_1) := ⟨by rw [← hq_]; exact (by (with_reducible repeat (first | apply Kd.S_alloc | apply Kd.S_drewN | apply Kd.S_drew)); exact HO_214000.out)⟩; have n1_ : Aside0 (wr.heap[gb211]? = some (.cells #[.slice none 0 0] 24 (0, 0))) := ⟨by rw [← hq_]; exact (by (with_reducible repeat (first | refine qkA ?_ _ | refine qkB ?_ | refine qkC ?_ _)); exact BK211.out)⟩; have n2_ : Aside0 (wr.heap[gb213]? = some (.cells #[u214000] 24 (0, 0))) := ⟨by rw [← hq_]; exact (by (with_reducible repeat (first | refine qkA ?_ _ | refine qkB ?_ | refine qkC ?_ _)); exact BK213.out)⟩; have n3_ : Aside0 (IsS94 w wr gb212 x213000_1 false) := ⟨by rw [← hq_]; exact (by repeat (first | (with_reducible first | exact HI212.out | apply IsS94.alloc | apply IsS94.drewN | apply IsS94.drew | apply IsS94.set_0 | apply IsS94.set_1 | apply IsS94.farB (hne := NB212_211.out) | apply IsS94.farB (hne := NB212_213.out)) | exact HI212.out))⟩; have n4_ : Aside0 (Below w.heap.size w wr) := ⟨by rw [← hq_]; exact (by repeat (first | (with_reducible first | exact HB.out | apply qbA | apply qbB | apply qbC | refine below_set ?_ (IsS94.ge HI212.out) | refine below_set ?_ GE211.out | refine below_set ?_ GE213.out) | exact HB.out))⟩; clear HO_214000 BK211 BK213 HI212 HB hq_; have HO_214000 := n0_; have BK211 := n1_; have BK213 := n2_; have HI212 := n3_; have HB := n4_; clear n0_ n1_ n2_ n3_ n4_)); (try (obtain ⟨HGy, hgy⟩ := HI212.out; have hcy0 := cellS94_0 HGy; have hfy0 := blk_frozen HGy 0; have hcy1 := cellS94_1 HGy; have hfy1 := blk_frozen HGy 1; clear HGy hgy)); have hnb96 := NB213_211.out; have hnc96 := NB211_213.out; have hnb97 := NB213_212.out; have hnc97 := NB212_213.out; have hcz98_0 : wr.cell? ⟨gb213, 0, none⟩ = some (u214000) := (blk_cell BK213.out 0).trans rfl; have hfz98_0 := blk_frozen BK213.out 0; obtain ⟨Ao99, co99, eo99⟩ := Kd.S_slice HO_214000.out; subst eo99) | ((with_reducible refine gate_callee (f := 17) rfl ?_); refine goesL_ (some 38) rfl rfl Tryd.func17 (by kernel_rfl) rfl #[.agg #[.slice Ao99 x214000_1.length co99]] rfl (by (try simp only [List.map_toArray, List.map_cons, List.map_nil]); first | done | rfl | (simp only [List.length_drop, List.length_take]; rfl)) ?_; (with_reducible refine (zipput_Put.calls _ _ x214000_1 t235 t236 _ ?side1 ?side2 A63.out).mono ?_); (case side1 => repeat (first | exact (Kd.S_reads' HO_214000.out).2.2 | (with_reducible refine Kd.C_alloc ?_ _) | (with_reducible refine Kd.C_drewN ?_ _) | (with_reducible refine Kd.C_drew ?_))); (case side2 => exact (Kd.S_reads' HO_214000.out).2.1); rintro e w100 ⟨rfl, hb⟩; refine ⟨_, rfl, ?_⟩; have n0_ := qas (Kd.S_below (by (with_reducible repeat (first | apply Kd.S_alloc | apply Kd.S_drewN | apply Kd.S_drew)); exact HO_214000.out) hb); have n1_ := qas (blk_below (g := gb211) (o := .cells #[.slice none 0 0] 24 (0, 0)) (by (with_reducible repeat (first | refine qkA ?_ _ | refine qkB ?_ | refine qkC ?_ _)); exact BK211.out) hb); have n2_ := qas (blk_below (g := gb213) (o := .cells #[.slice Ao99 x214000_1.length co99] 24 (0, 0)) (by (with_reducible repeat (first | refine qkA ?_ _ | refine qkB ?_ | refine qkC ?_ _)); exact BK213.out) hb); have n3_ := qas (IsS94.below (by repeat (first | (with_reducible first | exact HI212.out | apply IsS94.alloc | apply IsS94.drewN | apply IsS94.drew | apply IsS94.set_0 | apply IsS94.set_1 | apply IsS94.farB (hne := NB212_211.out) | apply IsS94.farB (hne := NB212_213.out)) | exact HI212.out)) hb); have n4_ := qas (below_step (by repeat (first | (with_reducible first | exact HB.out | apply qbA | apply qbB | apply qbC | refine below_set ?_ (IsS94.ge HI212.out) | refine below_set ?_ GE211.out | refine below_set ?_ GE213.out) | exact HB.out)) hb); clear HO_214000; clear BK211; clear BK213; clear HI212; clear HB; have HO_214000 := n0_; have BK211 := n1_; have BK213 := n2_; have HI212 := n3_; have HB := n4_; clear n0_ n1_ n2_ n3_ n4_; (try clear hb); (try clear hb2); (try clear hk); (try clear hi); obtain ⟨HGz101, hgz101⟩ := HI212.out; have hcz101_0 := cellS94_0 HGz101; have hcz101_1 := cellS94_1 HGz101; have hfz101_0 := blk_frozen HGz101 0; have hfz101_1 := blk_frozen HGz101 1; clear HGz101 hgz101; have hnb102 := NB211_212.out; have hnc102 := NB212_211.out; have hcz103_0 : w100.cell? ⟨gb211, 0, none⟩ = some (.slice none 0 0) := (blk_cell BK211.out 0).trans rfl; have hfz103_0 := blk_frozen BK211.out 0))
     refine bodyPost_ret (results_ct rfl _ _ gb211 24 #[.slice none 0 0] (0, 0) _ rfl (by (with_reducible repeat (first | refine qkA ?_ _ | refine qkB ?_ | refine qkC ?_ _)); refine blk_put (cs := #[.slice none 0 0]) ?_ 0 _ rfl; (with_reducible repeat (first | refine qkA ?_ _ | refine qkB ?_ | refine qkC ?_ _)); exact BK211.out) Tryd.underlying24 rfl (by kernel_rfl)) rfl ?_
     exact ⟨_, by first | rfl | (simp [errW_none, errW_some] <;> rfl) | (simp [*, errW_none, errW_some] <;> rfl), by first | exact Kd.S_nil _ _ _ _ _ | exact Kd.N_nil _ _ _ _ _ | exact Kd.V_nil _ _ _ _ _ | exact Kd.Q_nil _ _ _ _ _ | exact Kd.R_nil _ _ _ _ _, by repeat (first | (with_reducible first | exact HB.out | apply qbA | apply qbB | apply qbC | refine below_set ?_ (IsS94.ge HI212.out) | refine below_set ?_ GE211.out | refine below_set ?_ GE213.out) | exact HB.out)⟩
    rw [if_pos c74] at H
    have c74b0 : (t236 == 0) = true := beq_iff_eq.mpr c74
    have c74b1 : (t236 != 0) = false := bne_eq_false_iff_eq.mpr c74
    clear c74
    by_cases c75 : t235.toList = a0.toList
    rotate_left
    ·rw [if_neg c75] at H
     have c75b0 : (t235.toList == a0.toList) = false := beq_eq_false_iff_ne.mpr c75
     have c75b1 : (t235.toList != a0.toList) = true := bne_iff_ne.mpr c75
     simp only [Option.some.injEq, Prod.mk.injEq] at H
     obtain ⟨rfl, rfl⟩ := H
     obtain ⟨HGz86, hgz86⟩ := HI212.out
     have hcz86_0 := cellS94_0 HGz86
     have hcz86_1 := cellS94_1 HGz86
     have hfz86_0 := blk_frozen HGz86 0
     have hfz86_1 := blk_frozen HGz86 1
     clear HGz86 hgz86
     go_wp2_with (first | ((with_reducible refine gate_callee (f := 61) rfl ?_); refine goesL_ (some 15) rfl rfl Tryd.func61 (by kernel_rfl) rfl #[.string x213000_1, .string (⟨#[80, 75, 3, 4]⟩ : ByteArray)] rfl (by (try simp only [List.map_toArray, List.map_cons, List.map_nil]); first | done | rfl | (simp only [List.length_drop, List.length_take]; rfl)) ?_; (with_reducible refine (strings_HasPrefix.calls x213000_1 (⟨#[80, 75, 3, 4]⟩ : ByteArray) false _ A5.out).mono ?_); rintro e w' ⟨rfl, ⟨nd, rfl⟩⟩; refine ⟨_, rfl, ?_⟩; (try (rw [drewN_self wr]; generalize hq_ : World.drewN wr _ = wr; have n0_ : Aside0 (Kd.S k39 39 wr w.heap.size (fun _ => True) u214000 x214000_1) := ⟨by rw [← hq_]; exact (by (with_reducible repeat (first | apply Kd.S_alloc | apply Kd.S_drewN | apply Kd.S_drew)); exact HO_214000.out)⟩; have n1_ : Aside0 (wr.heap[gb211]? = some (.cells #[.slice none 0 0] 24 (0, 0))) := ⟨by rw [← hq_]; exact (by (with_reducible repeat (first | refine qkA ?_ _ | refine qkB ?_ | refine qkC ?_ _)); exact BK211.out)⟩; have n2_ : Aside0 (wr.heap[gb213]? = some (.cells #[u214000] 24 (0, 0))) := ⟨by rw [← hq_]; exact (by (with_reducible repeat (first | refine qkA ?_ _ | refine qkB ?_ | refine qkC ?_ _)); exact BK213.out)⟩; have n3_ : Aside0 (IsS94 w wr gb212 x213000_1 false) := ⟨by rw [← hq_]; exact (by repeat (first | (with_reducible first | exact HI212.out | apply IsS94.alloc | apply IsS94.drewN | apply IsS94.drew | apply IsS94.set_0 | apply IsS94.set_1 | apply IsS94.farB (hne := NB212_211.out) | apply IsS94.farB (hne := NB212_213.out)) | exact HI212.out))⟩; have n4_ : Aside0 (Below w.heap.size w wr) := ⟨by rw [← hq_]; exact (by repeat (first | (with_reducible first | exact HB.out | apply qbA | apply qbB | apply qbC | refine below_set ?_ (IsS94.ge HI212.out) | refine below_set ?_ GE211.out | refine below_set ?_ GE213.out) | exact HB.out))⟩; clear HO_214000 BK211 BK213 HI212 HB hq_; have HO_214000 := n0_; have BK211 := n1_; have BK213 := n2_; have HI212 := n3_; have HB := n4_; clear n0_ n1_ n2_ n3_ n4_)); (try (obtain ⟨HGy, hgy⟩ := HI212.out; have hcy0 := cellS94_0 HGy; have hfy0 := blk_frozen HGy 0; have hcy1 := cellS94_1 HGy; have hfy1 := blk_frozen HGy 1; clear HGy hgy)); have hnb87 := NB213_211.out; have hnc87 := NB211_213.out; have hnb88 := NB213_212.out; have hnc88 := NB212_213.out; have hcz89_0 : wr.cell? ⟨gb213, 0, none⟩ = some (u214000) := (blk_cell BK213.out 0).trans rfl; have hfz89_0 := blk_frozen BK213.out 0; obtain ⟨Ao90, co90, eo90⟩ := Kd.S_slice HO_214000.out; subst eo90) | ((with_reducible refine gate_callee (f := 17) rfl ?_); refine goesL_ (some 38) rfl rfl Tryd.func17 (by kernel_rfl) rfl #[.agg #[.slice Ao90 x214000_1.length co90]] rfl (by (try simp only [List.map_toArray, List.map_cons, List.map_nil]); first | done | rfl | (simp only [List.length_drop, List.length_take]; rfl)) ?_; (with_reducible refine (zipput_Put.calls _ _ x214000_1 t235 t236 _ ?side1 ?side2 A63.out).mono ?_); (case side1 => repeat (first | exact (Kd.S_reads' HO_214000.out).2.2 | (with_reducible refine Kd.C_alloc ?_ _) | (with_reducible refine Kd.C_drewN ?_ _) | (with_reducible refine Kd.C_drew ?_))); (case side2 => exact (Kd.S_reads' HO_214000.out).2.1); rintro e w91 ⟨rfl, hb⟩; refine ⟨_, rfl, ?_⟩; have n0_ := qas (Kd.S_below (by (with_reducible repeat (first | apply Kd.S_alloc | apply Kd.S_drewN | apply Kd.S_drew)); exact HO_214000.out) hb); have n1_ := qas (blk_below (g := gb211) (o := .cells #[.slice none 0 0] 24 (0, 0)) (by (with_reducible repeat (first | refine qkA ?_ _ | refine qkB ?_ | refine qkC ?_ _)); exact BK211.out) hb); have n2_ := qas (blk_below (g := gb213) (o := .cells #[.slice Ao90 x214000_1.length co90] 24 (0, 0)) (by (with_reducible repeat (first | refine qkA ?_ _ | refine qkB ?_ | refine qkC ?_ _)); exact BK213.out) hb); have n3_ := qas (IsS94.below (by repeat (first | (with_reducible first | exact HI212.out | apply IsS94.alloc | apply IsS94.drewN | apply IsS94.drew | apply IsS94.set_0 | apply IsS94.set_1 | apply IsS94.farB (hne := NB212_211.out) | apply IsS94.farB (hne := NB212_213.out)) | exact HI212.out)) hb); have n4_ := qas (below_step (by repeat (first | (with_reducible first | exact HB.out | apply qbA | apply qbB | apply qbC | refine below_set ?_ (IsS94.ge HI212.out) | refine below_set ?_ GE211.out | refine below_set ?_ GE213.out) | exact HB.out)) hb); clear HO_214000; clear BK211; clear BK213; clear HI212; clear HB; have HO_214000 := n0_; have BK211 := n1_; have BK213 := n2_; have HI212 := n3_; have HB := n4_; clear n0_ n1_ n2_ n3_ n4_; (try clear hb); (try clear hb2); (try clear hk); (try clear hi); obtain ⟨HGz92, hgz92⟩ := HI212.out; have hcz92_0 := cellS94_0 HGz92; have hcz92_1 := cellS94_1 HGz92; have hfz92_0 := blk_frozen HGz92 0; have hfz92_1 := blk_frozen HGz92 1; clear HGz92 hgz92; have hnb93 := NB211_212.out; have hnc93 := NB212_211.out; have hcz94_0 : w91.cell? ⟨gb211, 0, none⟩ = some (.slice none 0 0) := (blk_cell BK211.out 0).trans rfl; have hfz94_0 := blk_frozen BK211.out 0))
     refine bodyPost_ret (results_ct rfl _ _ gb211 24 #[.slice none 0 0] (0, 0) _ rfl (by (with_reducible repeat (first | refine qkA ?_ _ | refine qkB ?_ | refine qkC ?_ _)); refine blk_put (cs := #[.slice none 0 0]) ?_ 0 _ rfl; (with_reducible repeat (first | refine qkA ?_ _ | refine qkB ?_ | refine qkC ?_ _)); exact BK211.out) Tryd.underlying24 rfl (by kernel_rfl)) rfl ?_
     exact ⟨_, by first | rfl | (simp [errW_none, errW_some] <;> rfl) | (simp [*, errW_none, errW_some] <;> rfl), by first | exact Kd.S_nil _ _ _ _ _ | exact Kd.N_nil _ _ _ _ _ | exact Kd.V_nil _ _ _ _ _ | exact Kd.Q_nil _ _ _ _ _ | exact Kd.R_nil _ _ _ _ _, by repeat (first | (with_reducible first | exact HB.out | apply qbA | apply qbB | apply qbC | refine below_set ?_ (IsS94.ge HI212.out) | refine below_set ?_ GE211.out | refine below_set ?_ GE213.out) | exact HB.out)⟩
    rw [if_pos c75] at H
    have c75b0 : (t235.toList == a0.toList) = true := beq_iff_eq.mpr c75
    have c75b1 : (t235.toList != a0.toList) = false := bne_eq_false_iff_eq.mpr c75
    clear c75
    simp only [Option.some.injEq, Prod.mk.injEq] at H
    obtain ⟨rfl, rfl⟩ := H
    obtain ⟨HGz76, hgz76⟩ := HI212.out
    have hcz76_0 := cellS94_0 HGz76
    have hcz76_1 := cellS94_1 HGz76
    have hfz76_0 := blk_frozen HGz76 0
    have hfz76_1 := blk_frozen HGz76 1
    clear HGz76 hgz76
    go_wp2_with (first | ((with_reducible refine gate_callee (f := 61) rfl ?_); refine goesL_ (some 15) rfl rfl Tryd.func61 (by kernel_rfl) rfl #[.string x213000_1, .string (⟨#[80, 75, 3, 4]⟩ : ByteArray)] rfl (by (try simp only [List.map_toArray, List.map_cons, List.map_nil]); first | done | rfl | (simp only [List.length_drop, List.length_take]; rfl)) ?_; (with_reducible refine (strings_HasPrefix.calls x213000_1 (⟨#[80, 75, 3, 4]⟩ : ByteArray) false _ A5.out).mono ?_); rintro e w' ⟨rfl, ⟨nd, rfl⟩⟩; refine ⟨_, rfl, ?_⟩; (try (rw [drewN_self wr]; generalize hq_ : World.drewN wr _ = wr; have n0_ : Aside0 (Kd.S k39 39 wr w.heap.size (fun _ => True) u214000 x214000_1) := ⟨by rw [← hq_]; exact (by (with_reducible repeat (first | apply Kd.S_alloc | apply Kd.S_drewN | apply Kd.S_drew)); exact HO_214000.out)⟩; have n1_ : Aside0 (wr.heap[gb211]? = some (.cells #[.slice none 0 0] 24 (0, 0))) := ⟨by rw [← hq_]; exact (by (with_reducible repeat (first | refine qkA ?_ _ | refine qkB ?_ | refine qkC ?_ _)); exact BK211.out)⟩; have n2_ : Aside0 (wr.heap[gb213]? = some (.cells #[u214000] 24 (0, 0))) := ⟨by rw [← hq_]; exact (by (with_reducible repeat (first | refine qkA ?_ _ | refine qkB ?_ | refine qkC ?_ _)); exact BK213.out)⟩; have n3_ : Aside0 (IsS94 w wr gb212 x213000_1 false) := ⟨by rw [← hq_]; exact (by repeat (first | (with_reducible first | exact HI212.out | apply IsS94.alloc | apply IsS94.drewN | apply IsS94.drew | apply IsS94.set_0 | apply IsS94.set_1 | apply IsS94.farB (hne := NB212_211.out) | apply IsS94.farB (hne := NB212_213.out)) | exact HI212.out))⟩; have n4_ : Aside0 (Below w.heap.size w wr) := ⟨by rw [← hq_]; exact (by repeat (first | (with_reducible first | exact HB.out | apply qbA | apply qbB | apply qbC | refine below_set ?_ (IsS94.ge HI212.out) | refine below_set ?_ GE211.out | refine below_set ?_ GE213.out) | exact HB.out))⟩; clear HO_214000 BK211 BK213 HI212 HB hq_; have HO_214000 := n0_; have BK211 := n1_; have BK213 := n2_; have HI212 := n3_; have HB := n4_; clear n0_ n1_ n2_ n3_ n4_)); (try (obtain ⟨HGy, hgy⟩ := HI212.out; have hcy0 := cellS94_0 HGy; have hfy0 := blk_frozen HGy 0; have hcy1 := cellS94_1 HGy; have hfy1 := blk_frozen HGy 1; clear HGy hgy)); have hnb77 := NB213_211.out; have hnc77 := NB211_213.out; have hnb78 := NB213_212.out; have hnc78 := NB212_213.out; have hcz79_0 : wr.cell? ⟨gb213, 0, none⟩ = some (u214000) := (blk_cell BK213.out 0).trans rfl; have hfz79_0 := blk_frozen BK213.out 0; obtain ⟨Ao80, co80, eo80⟩ := Kd.S_slice HO_214000.out; subst eo80) | ((with_reducible refine gate_callee (f := 17) rfl ?_); refine goesL_ (some 38) rfl rfl Tryd.func17 (by kernel_rfl) rfl #[.agg #[.slice Ao80 x214000_1.length co80]] rfl (by (try simp only [List.map_toArray, List.map_cons, List.map_nil]); first | done | rfl | (simp only [List.length_drop, List.length_take]; rfl)) ?_; (with_reducible refine (zipput_Put.calls _ _ x214000_1 t235 t236 _ ?side1 ?side2 A63.out).mono ?_); (case side1 => repeat (first | exact (Kd.S_reads' HO_214000.out).2.2 | (with_reducible refine Kd.C_alloc ?_ _) | (with_reducible refine Kd.C_drewN ?_ _) | (with_reducible refine Kd.C_drew ?_))); (case side2 => exact (Kd.S_reads' HO_214000.out).2.1); rintro e w81 ⟨rfl, hb⟩; refine ⟨_, rfl, ?_⟩; have n0_ := qas (Kd.S_below (by (with_reducible repeat (first | apply Kd.S_alloc | apply Kd.S_drewN | apply Kd.S_drew)); exact HO_214000.out) hb); have n1_ := qas (blk_below (g := gb211) (o := .cells #[.slice none 0 0] 24 (0, 0)) (by (with_reducible repeat (first | refine qkA ?_ _ | refine qkB ?_ | refine qkC ?_ _)); exact BK211.out) hb); have n2_ := qas (blk_below (g := gb213) (o := .cells #[.slice Ao80 x214000_1.length co80] 24 (0, 0)) (by (with_reducible repeat (first | refine qkA ?_ _ | refine qkB ?_ | refine qkC ?_ _)); exact BK213.out) hb); have n3_ := qas (IsS94.below (by repeat (first | (with_reducible first | exact HI212.out | apply IsS94.alloc | apply IsS94.drewN | apply IsS94.drew | apply IsS94.set_0 | apply IsS94.set_1 | apply IsS94.farB (hne := NB212_211.out) | apply IsS94.farB (hne := NB212_213.out)) | exact HI212.out)) hb); have n4_ := qas (below_step (by repeat (first | (with_reducible first | exact HB.out | apply qbA | apply qbB | apply qbC | refine below_set ?_ (IsS94.ge HI212.out) | refine below_set ?_ GE211.out | refine below_set ?_ GE213.out) | exact HB.out)) hb); clear HO_214000; clear BK211; clear BK213; clear HI212; clear HB; have HO_214000 := n0_; have BK211 := n1_; have BK213 := n2_; have HI212 := n3_; have HB := n4_; clear n0_ n1_ n2_ n3_ n4_; (try clear hb); (try clear hb2); (try clear hk); (try clear hi); obtain ⟨HGz82, hgz82⟩ := HI212.out; have hcz82_0 := cellS94_0 HGz82; have hcz82_1 := cellS94_1 HGz82; have hfz82_0 := blk_frozen HGz82 0; have hfz82_1 := blk_frozen HGz82 1; clear HGz82 hgz82; have hcz83_0 : w81.cell? ⟨gb213, 0, none⟩ = some (.slice Ao80 x214000_1.length co80) := (blk_cell BK213.out 0).trans rfl; have hfz83_0 := blk_frozen BK213.out 0; have hnb84 := NB211_212.out; have hnc84 := NB212_211.out; have hcz85_0 : w81.cell? ⟨gb211, 0, none⟩ = some (.slice none 0 0) := (blk_cell BK211.out 0).trans rfl; have hfz85_0 := blk_frozen BK211.out 0))
    refine bodyPost_ret (results_ct rfl _ _ gb211 24 #[.slice Ao80 x214000_1.length co80] (0, 0) _ rfl (by (with_reducible repeat (first | refine qkA ?_ _ | refine qkB ?_ | refine qkC ?_ _)); refine blk_put (cs := #[.slice none 0 0]) ?_ 0 _ rfl; (with_reducible repeat (first | refine qkA ?_ _ | refine qkB ?_ | refine qkC ?_ _)); exact BK211.out) Tryd.underlying24 rfl (by kernel_rfl)) rfl ?_
    exact ⟨_, by first | rfl | (simp [errW_none, errW_some] <;> rfl) | (simp [*, errW_none, errW_some] <;> rfl), by (with_reducible repeat (first | apply Kd.S_alloc | apply Kd.S_drewN | apply Kd.S_drew)); exact Kd.S_mono (Kd.S_far (p := ⟨gb211, 0, none⟩) (Kd.S_types HO_214000.out BK211.out (by decide)) (fun _ hk => hk.2) (.slice Ao80 x214000_1.length co80)) (fun _ hk => trivial), by repeat (first | (with_reducible first | exact HB.out | apply qbA | apply qbB | apply qbC | refine below_set ?_ (IsS94.ge HI212.out) | refine below_set ?_ GE211.out | refine below_set ?_ GE213.out) | exact HB.out)⟩
   subst c6
   have H1 : (if x213001_1 = true then ((zipput_Put.f x214000_1).bind fun bt215 => (some (([] : List (S39)), 1400))) else (if (x214000_1.length : Int) < 6 then ((zipget_entry.f k1 x213000_1 x213001_1).bind fun bt217 => (if x214000_1.length < 1353245080339 then (zipget_Get.l0 k1 a0 bt217.2.2.2.2.2.2.2.2.2.1 bt217.2.2.2.2.2.2.2.2.2.2 (x214000_1 ++ [(⟨bt217.1, bt217.2.1, bt217.2.2.1, bt217.2.2.2.1, bt217.2.2.2.2.1, bt217.2.2.2.2.2.1, bt217.2.2.2.2.2.2.1, bt217.2.2.2.2.2.2.2.1, bt217.2.2.2.2.2.2.2.2.1⟩ : S39)])) else (none))) else ((zipput_Put.f x214000_1).bind fun bt233 => (if bt233.2 = 0 then (if bt233.1.toList = a0.toList then (some (x214000_1, 0)) else (some (([] : List (S39)), 1400))) else (some (([] : List (S39)), 1400)))))) = some (r1, r2) := by rw [if_pos rfl] at H; exact H
   clear H
   have H := H1
   clear H1
   by_cases c7 : x213001_1 = true
   ·subst c7
    have H1 : ((zipput_Put.f x214000_1).bind fun bt215 => (some (([] : List (S39)), 1400))) = some (r1, r2) := by rw [if_pos rfl] at H; exact H
    clear H
    have H := H1
    clear H1
    replace H := Option.bind_eq_some_iff.mp H
    obtain ⟨⟨t215, t216⟩, A80, H⟩ := H
    replace H : (some (([] : List (S39)), 1400)) = some (r1, r2) := H
    have A8 := qas A80
    clear A80
    simp only [Option.some.injEq, Prod.mk.injEq] at H
    obtain ⟨rfl, rfl⟩ := H
    obtain ⟨HGz9, hgz9⟩ := HI212.out
    have hcz9_0 := cellS94_0 HGz9
    have hcz9_1 := cellS94_1 HGz9
    have hfz9_0 := blk_frozen HGz9 0
    have hfz9_1 := blk_frozen HGz9 1
    clear HGz9 hgz9
    go_wp2_with (first | ((with_reducible refine gate_callee (f := 61) rfl ?_); refine goesL_ (some 15) rfl rfl Tryd.func61 (by kernel_rfl) rfl #[.string x213000_1, .string (⟨#[80, 75, 3, 4]⟩ : ByteArray)] rfl (by (try simp only [List.map_toArray, List.map_cons, List.map_nil]); first | done | rfl | (simp only [List.length_drop, List.length_take]; rfl)) ?_; (with_reducible refine (strings_HasPrefix.calls x213000_1 (⟨#[80, 75, 3, 4]⟩ : ByteArray) true _ A5.out).mono ?_); rintro e w' ⟨rfl, ⟨nd, rfl⟩⟩; refine ⟨_, rfl, ?_⟩; (try (rw [drewN_self wr]; generalize hq_ : World.drewN wr _ = wr; have n0_ : Aside0 (Kd.S k39 39 wr w.heap.size (fun _ => True) u214000 x214000_1) := ⟨by rw [← hq_]; exact (by (with_reducible repeat (first | apply Kd.S_alloc | apply Kd.S_drewN | apply Kd.S_drew)); exact HO_214000.out)⟩; have n1_ : Aside0 (wr.heap[gb211]? = some (.cells #[.slice none 0 0] 24 (0, 0))) := ⟨by rw [← hq_]; exact (by (with_reducible repeat (first | refine qkA ?_ _ | refine qkB ?_ | refine qkC ?_ _)); exact BK211.out)⟩; have n2_ : Aside0 (wr.heap[gb213]? = some (.cells #[u214000] 24 (0, 0))) := ⟨by rw [← hq_]; exact (by (with_reducible repeat (first | refine qkA ?_ _ | refine qkB ?_ | refine qkC ?_ _)); exact BK213.out)⟩; have n3_ : Aside0 (IsS94 w wr gb212 x213000_1 true) := ⟨by rw [← hq_]; exact (by repeat (first | (with_reducible first | exact HI212.out | apply IsS94.alloc | apply IsS94.drewN | apply IsS94.drew | apply IsS94.set_0 | apply IsS94.set_1 | apply IsS94.farB (hne := NB212_211.out) | apply IsS94.farB (hne := NB212_213.out)) | exact HI212.out))⟩; have n4_ : Aside0 (Below w.heap.size w wr) := ⟨by rw [← hq_]; exact (by repeat (first | (with_reducible first | exact HB.out | apply qbA | apply qbB | apply qbC | refine below_set ?_ (IsS94.ge HI212.out) | refine below_set ?_ GE211.out | refine below_set ?_ GE213.out) | exact HB.out))⟩; clear HO_214000 BK211 BK213 HI212 HB hq_; have HO_214000 := n0_; have BK211 := n1_; have BK213 := n2_; have HI212 := n3_; have HB := n4_; clear n0_ n1_ n2_ n3_ n4_)); (try (obtain ⟨HGy, hgy⟩ := HI212.out; have hcy0 := cellS94_0 HGy; have hfy0 := blk_frozen HGy 0; have hcy1 := cellS94_1 HGy; have hfy1 := blk_frozen HGy 1; clear HGy hgy)); have hnb10 := NB213_211.out; have hnc10 := NB211_213.out; have hnb11 := NB213_212.out; have hnc11 := NB212_213.out; have hcz12_0 : wr.cell? ⟨gb213, 0, none⟩ = some (u214000) := (blk_cell BK213.out 0).trans rfl; have hfz12_0 := blk_frozen BK213.out 0; obtain ⟨Ao13, co13, eo13⟩ := Kd.S_slice HO_214000.out; subst eo13) | ((with_reducible refine gate_callee (f := 17) rfl ?_); refine goesL_ (some 38) rfl rfl Tryd.func17 (by kernel_rfl) rfl #[.agg #[.slice Ao13 x214000_1.length co13]] rfl (by (try simp only [List.map_toArray, List.map_cons, List.map_nil]); first | done | rfl | (simp only [List.length_drop, List.length_take]; rfl)) ?_; (with_reducible refine (zipput_Put.calls _ _ x214000_1 t215 t216 _ ?side1 ?side2 A8.out).mono ?_); (case side1 => repeat (first | exact (Kd.S_reads' HO_214000.out).2.2 | (with_reducible refine Kd.C_alloc ?_ _) | (with_reducible refine Kd.C_drewN ?_ _) | (with_reducible refine Kd.C_drew ?_))); (case side2 => exact (Kd.S_reads' HO_214000.out).2.1); rintro e w14 ⟨rfl, hb⟩; refine ⟨_, rfl, ?_⟩; have n0_ := qas (Kd.S_below (by (with_reducible repeat (first | apply Kd.S_alloc | apply Kd.S_drewN | apply Kd.S_drew)); exact HO_214000.out) hb); have n1_ := qas (blk_below (g := gb211) (o := .cells #[.slice none 0 0] 24 (0, 0)) (by (with_reducible repeat (first | refine qkA ?_ _ | refine qkB ?_ | refine qkC ?_ _)); exact BK211.out) hb); have n2_ := qas (blk_below (g := gb213) (o := .cells #[.slice Ao13 x214000_1.length co13] 24 (0, 0)) (by (with_reducible repeat (first | refine qkA ?_ _ | refine qkB ?_ | refine qkC ?_ _)); exact BK213.out) hb); have n3_ := qas (IsS94.below (by repeat (first | (with_reducible first | exact HI212.out | apply IsS94.alloc | apply IsS94.drewN | apply IsS94.drew | apply IsS94.set_0 | apply IsS94.set_1 | apply IsS94.farB (hne := NB212_211.out) | apply IsS94.farB (hne := NB212_213.out)) | exact HI212.out)) hb); have n4_ := qas (below_step (by repeat (first | (with_reducible first | exact HB.out | apply qbA | apply qbB | apply qbC | refine below_set ?_ (IsS94.ge HI212.out) | refine below_set ?_ GE211.out | refine below_set ?_ GE213.out) | exact HB.out)) hb); clear HO_214000; clear BK211; clear BK213; clear HI212; clear HB; have HO_214000 := n0_; have BK211 := n1_; have BK213 := n2_; have HI212 := n3_; have HB := n4_; clear n0_ n1_ n2_ n3_ n4_; (try clear hb); (try clear hb2); (try clear hk); (try clear hi); obtain ⟨HGz15, hgz15⟩ := HI212.out; have hcz15_0 := cellS94_0 HGz15; have hcz15_1 := cellS94_1 HGz15; have hfz15_0 := blk_frozen HGz15 0; have hfz15_1 := blk_frozen HGz15 1; clear HGz15 hgz15; have hnb16 := NB211_212.out; have hnc16 := NB212_211.out; have hcz17_0 : w14.cell? ⟨gb211, 0, none⟩ = some (.slice none 0 0) := (blk_cell BK211.out 0).trans rfl; have hfz17_0 := blk_frozen BK211.out 0))
    refine bodyPost_ret (results_ct rfl _ _ gb211 24 #[.slice none 0 0] (0, 0) _ rfl (by (with_reducible repeat (first | refine qkA ?_ _ | refine qkB ?_ | refine qkC ?_ _)); refine blk_put (cs := #[.slice none 0 0]) ?_ 0 _ rfl; (with_reducible repeat (first | refine qkA ?_ _ | refine qkB ?_ | refine qkC ?_ _)); exact BK211.out) Tryd.underlying24 rfl (by kernel_rfl)) rfl ?_
    exact ⟨_, by first | rfl | (simp [errW_none, errW_some] <;> rfl) | (simp [*, errW_none, errW_some] <;> rfl), by first | exact Kd.S_nil _ _ _ _ _ | exact Kd.N_nil _ _ _ _ _ | exact Kd.V_nil _ _ _ _ _ | exact Kd.Q_nil _ _ _ _ _ | exact Kd.R_nil _ _ _ _ _, by repeat (first | (with_reducible first | exact HB.out | apply qbA | apply qbB | apply qbC | refine below_set ?_ (IsS94.ge HI212.out) | refine below_set ?_ GE211.out | refine below_set ?_ GE213.out) | exact HB.out)⟩
   replace c7 := Bool.eq_false_iff.mpr c7
   subst c7
   have H1 : (if (x214000_1.length : Int) < 6 then ((zipget_entry.f k1 x213000_1 false).bind fun bt217 => (if x214000_1.length < 1353245080339 then (zipget_Get.l0 k1 a0 bt217.2.2.2.2.2.2.2.2.2.1 bt217.2.2.2.2.2.2.2.2.2.2 (x214000_1 ++ [(⟨bt217.1, bt217.2.1, bt217.2.2.1, bt217.2.2.2.1, bt217.2.2.2.2.1, bt217.2.2.2.2.2.1, bt217.2.2.2.2.2.2.1, bt217.2.2.2.2.2.2.2.1, bt217.2.2.2.2.2.2.2.2.1⟩ : S39)])) else (none))) else ((zipput_Put.f x214000_1).bind fun bt233 => (if bt233.2 = 0 then (if bt233.1.toList = a0.toList then (some (x214000_1, 0)) else (some (([] : List (S39)), 1400))) else (some (([] : List (S39)), 1400))))) = some (r1, r2) := by rw [if_neg (show ¬ (false = true) by decide)] at H; exact H
   clear H
   have H := H1
   clear H1
   by_cases c18 : (x214000_1.length : Int) < 6
   ·rw [if_pos c18] at H
    have c18b0 : decide ((x214000_1.length : Int) < 6) = true := decide_eq_true c18
    have c18b1 : decide (x214000_1.length < 6) = true := decide_eq_true (by omega)
    clear c18
    replace H := Option.bind_eq_some_iff.mp H
    obtain ⟨⟨t217, t218, t219, t222, t223, t224, t225, t226, t227, t228, t229⟩, A190, H⟩ := H
    replace H : (if x214000_1.length < 1353245080339 then (zipget_Get.l0 k1 a0 t228 t229 (x214000_1 ++ [(⟨t217, t218, t219, t222, t223, t224, t225, t226, t227⟩ : S39)])) else (none)) = some (r1, r2) := H
    have A19 := qas A190
    clear A190
    by_cases c20 : x214000_1.length < 1353245080339
    rotate_left
    ·rw [if_neg c20] at H
     exact absurd H (by simp)
    rw [if_pos c20] at H
    have LMc20 := qas c20
    clear c20
    obtain ⟨y230, hy230⟩ : ∃ y_ : List (S39), y_ = (x214000_1 ++ [(⟨t217, t218, t219, t222, t223, t224, t225, t226, t227⟩ : S39)]) := ⟨_, rfl⟩
    replace H : (zipget_Get.l0 k1 a0 t228 t229 y230) = some (r1, r2) := by first | (rw [hy230]; with_reducible exact H) | (have H2_ := (Option.bind_some _ _).symm.trans H; rw [hy230]; with_reducible exact H2_) | (have H2_ := (Option.bind_some _ _).symm.trans H; with_reducible exact H2_) | with_reducible exact H | (rw [hy230]; exact H) | exact H
    have Ny230 := qas hy230
    clear hy230
    have H' := qas H
    clear H
    obtain ⟨HGz21, hgz21⟩ := HI212.out
    have hcz21_0 := cellS94_0 HGz21
    have hcz21_1 := cellS94_1 HGz21
    have hfz21_0 := blk_frozen HGz21 0
    have hfz21_1 := blk_frozen HGz21 1
    clear HGz21 hgz21
    try go_wp2_with (first | ((with_reducible refine gate_callee (f := 61) rfl ?_); refine goesL_ (some 15) rfl rfl Tryd.func61 (by kernel_rfl) rfl #[.string x213000_1, .string (⟨#[80, 75, 3, 4]⟩ : ByteArray)] rfl (by (try simp only [List.map_toArray, List.map_cons, List.map_nil]); first | done | rfl | (simp only [List.length_drop, List.length_take]; rfl)) ?_; (with_reducible refine (strings_HasPrefix.calls x213000_1 (⟨#[80, 75, 3, 4]⟩ : ByteArray) true _ A5.out).mono ?_); rintro e w' ⟨rfl, ⟨nd, rfl⟩⟩; refine ⟨_, rfl, ?_⟩; (try (rw [drewN_self wr]; generalize hq_ : World.drewN wr _ = wr; have n0_ : Aside0 (Kd.S k39 39 wr w.heap.size (fun _ => True) u214000 x214000_1) := ⟨by rw [← hq_]; exact (by (with_reducible repeat (first | apply Kd.S_alloc | apply Kd.S_drewN | apply Kd.S_drew)); exact HO_214000.out)⟩; have n1_ : Aside0 (wr.heap[gb211]? = some (.cells #[.slice none 0 0] 24 (0, 0))) := ⟨by rw [← hq_]; exact (by (with_reducible repeat (first | refine qkA ?_ _ | refine qkB ?_ | refine qkC ?_ _)); exact BK211.out)⟩; have n2_ : Aside0 (wr.heap[gb213]? = some (.cells #[u214000] 24 (0, 0))) := ⟨by rw [← hq_]; exact (by (with_reducible repeat (first | refine qkA ?_ _ | refine qkB ?_ | refine qkC ?_ _)); exact BK213.out)⟩; have n3_ : Aside0 (IsS94 w wr gb212 x213000_1 false) := ⟨by rw [← hq_]; exact (by repeat (first | (with_reducible first | exact HI212.out | apply IsS94.alloc | apply IsS94.drewN | apply IsS94.drew | apply IsS94.set_0 | apply IsS94.set_1 | apply IsS94.farB (hne := NB212_211.out) | apply IsS94.farB (hne := NB212_213.out)) | exact HI212.out))⟩; have n4_ : Aside0 (Below w.heap.size w wr) := ⟨by rw [← hq_]; exact (by repeat (first | (with_reducible first | exact HB.out | apply qbA | apply qbB | apply qbC | refine below_set ?_ (IsS94.ge HI212.out) | refine below_set ?_ GE211.out | refine below_set ?_ GE213.out) | exact HB.out))⟩; clear HO_214000 BK211 BK213 HI212 HB hq_; have HO_214000 := n0_; have BK211 := n1_; have BK213 := n2_; have HI212 := n3_; have HB := n4_; clear n0_ n1_ n2_ n3_ n4_)); (try (obtain ⟨HGy, hgy⟩ := HI212.out; have hcy0 := cellS94_0 HGy; have hfy0 := blk_frozen HGy 0; have hcy1 := cellS94_1 HGy; have hfy1 := blk_frozen HGy 1; clear HGy hgy)); have hnb22 := NB213_211.out; have hnc22 := NB211_213.out; have hnb23 := NB213_212.out; have hnc23 := NB212_213.out; have hcz24_0 : wr.cell? ⟨gb213, 0, none⟩ = some (u214000) := (blk_cell BK213.out 0).trans rfl; have hfz24_0 := blk_frozen BK213.out 0; obtain ⟨Ao25, co25, eo25⟩ := Kd.S_slice HO_214000.out; subst eo25))
    have n0_ := qas (Kd.S_drew HO_214000.out)
    have n1_ := qas (qkB BK211.out)
    have n2_ := qas (qkB BK213.out)
    have n3_ := qas (IsS94.drew HI212.out)
    have n4_ := qas (qbC HB.out)
    clear HO_214000
    clear BK211
    clear BK213
    clear HI212
    clear HB
    have HO_214000 := n0_
    have BK211 := n1_
    have BK213 := n2_
    have HI212 := n3_
    have HB := n4_
    clear n0_ n1_ n2_ n3_ n4_
    refine start_ (n := 8) (S := fun w' => w'.cell? ⟨gb213, 0, none⟩ = some (.slice Ao25 x214000_1.length co25)) (ds := [7]) #[qf, qf, qf, qf, qf, qf, qf, qf] (by kernel_rfl) rfl rfl ((blk_cell BK213.out 0).trans rfl) (fun hHeld => ?_); refine with_tabW zipget_Get.tab4 zipget_Get.bits4 (fun HT_ HW_ => ?_)
    generalize wr.drew = w26 at HO_214000 BK211 BK213 HI212 HB hHeld ⊢
    refine pure_ (i := 0) (N := some 29) (v := ?_) (a' := ?_) #[qt, qf, qf, qf, qf, qf, qf, qf] rfl rfl (any_of HT_.out (by kernel_rfl)) (fun _ _ _ h => h) (Or.inl ⟨by rfl, ?_⟩) ?_ ?_
    rotate_left
    ·intro w'
     go_simp
     with_reducible rfl
    rotate_left
    ·simp only [Act.put, qsA, qsB, qsC, i64_w, i32_w, qsD, qsE]
     rfl
    refine pure_ (i := 2) (N := some 31) (v := ?_) (a' := ?_) #[qt, qf, qt, qf, qf, qf, qf, qf] rfl rfl (any_of HT_.out (by kernel_rfl)) (fun _ _ _ h => h) (Or.inl ⟨by rfl, ?_⟩) ?_ ?_
    rotate_left
    ·intro w'
     go_simp
     with_reducible rfl
    rotate_left
    ·simp only [Act.put, qsA, qsB, qsC, i64_w, i32_w, qsD, qsE]
     rfl
    refine take_ (i := 1) (N := some 30) (v := ?_) (a' := ?_) #[qt, qt, qt, qf, qf, qf, qf, qf] rfl rfl (take_ofW HT_.out HW_.out (by kernel_rfl)) (fun _ _ _ h => h) (Or.inl ⟨by rfl, ?_⟩) hHeld ?_ ?_
    rotate_left
    ·intro w' s0
     go_simp
     with_reducible rfl
    rotate_left
    ·simp only [Act.put, qsA, qsB, qsC, i64_w, i32_w, qsD, qsE]
     rfl
    refine one_ (i := 3) (N := some 32) #[qt, qt, qt, qt, qf, qf, qf, qf] rfl rfl (one_of HT_.out (by kernel_rfl)) (by decide) (fun K hK => ?_)
    refine goes_ Tryd.func62 (by kernel_rfl) rfl #[.pointer (some ⟨gb212, 0, none⟩)] (by rfl) rfl rfl (by (try simp only [List.map_toArray, List.map_cons, List.map_nil]); first | done | rfl | (simp only [List.length_drop, List.length_take]; rfl)) ?_
    with_reducible refine (zipget_entry.calls k1 gb212 x213000_1 false t217 t218 t219 t222 t223 t224 t225 t226 t227 t228 t229 w _ ?side1 ?side2 A19.out).mono ?_
    (case side1 => repeat (first | (with_reducible first | exact HI212.out | apply IsS94.alloc | apply IsS94.drewN | apply IsS94.drew | apply IsS94.set_0 | apply IsS94.set_1 | apply IsS94.farB (hne := NB212_211.out) | apply IsS94.farB (hne := NB212_213.out)) | exact HI212.out))
    (case side2 => repeat (first | (with_reducible first | exact HB.out | apply qbA | apply qbB | apply qbC | refine below_set ?_ (IsS94.ge HI212.out) | refine below_set ?_ GE211.out | refine below_set ?_ GE213.out) | exact HB.out))
    rintro e w27 ⟨v220, rfl, ho0, hi, hb, hk⟩
    refine ⟨_, rfl, ?_⟩
    have n0_ := qas (Kd.S_mono (Kd.S_told (Kd.S_oldK (IsS94.apartS (show IsS94 w _ gb212 x213000_1 false from by repeat (first | (with_reducible first | exact HI212.out | apply IsS94.alloc | apply IsS94.drewN | apply IsS94.drew | apply IsS94.set_0 | apply IsS94.set_1 | apply IsS94.farB (hne := NB212_211.out) | apply IsS94.farB (hne := NB212_213.out)) | exact HI212.out)) (by (with_reducible repeat (first | apply Kd.S_alloc | apply Kd.S_drewN | apply Kd.S_drew)); exact HO_214000.out) (by decide)) hk) (Kd.R_base ho0)) (fun _ h_ => h_.1))
    have n1_ := qas (KeepBut.blk hk (g' := gb211) (o := .cells #[.slice none 0 0] 24 (0, 0)) (by (with_reducible repeat (first | refine qkA ?_ _ | refine qkB ?_ | refine qkC ?_ _)); exact BK211.out) NB211_212.out (by simp))
    have n2_ := qas (KeepBut.blk hk (g' := gb213) (o := .cells #[.slice Ao25 x214000_1.length co25] 24 (0, 0)) (by (with_reducible repeat (first | refine qkA ?_ _ | refine qkB ?_ | refine qkC ?_ _)); exact BK213.out) NB213_212.out (by simp))
    have n3_ := qas (Kd.R_lower ho0 (below_size (by repeat (first | (with_reducible first | exact HB.out | apply qbA | apply qbB | apply qbC | refine below_set ?_ (IsS94.ge HI212.out) | refine below_set ?_ GE211.out | refine below_set ?_ GE213.out) | exact HB.out))))
    have n4_ := qas (hb)
    have n5_ := qas (hi)
    clear HO_214000
    clear BK211
    clear BK213
    clear HB
    clear HI212
    have HO_214000 := n0_
    have BK211 := n1_
    have BK213 := n2_
    have HO221 := n3_
    have HB := n4_
    have HI212 := n5_
    clear n0_ n1_ n2_ n3_ n4_ n5_
    (try clear hb)
    (try clear hb2)
    (try clear hk)
    (try clear hi)
    (try clear ho0)
    obtain ⟨Ao29, co29, eo29⟩ := Kd.R_slice HO221.out
    (first | subst eo29 | (injection eo29 with f1_ f2_ f3_; have f4_ := f1_.symm; have f5_ := f3_.symm; clear f1_ f2_ f3_; subst f4_; subst f5_))
    refine hK.out _ _ ((blk_cell BK213.out 0).trans rfl) (fun hHeld => ?_)
    clear hK K
    refine norm_ (a' := ?_) ?_ ?_
    rotate_left
    ·show Act.put _ (some 32) _ = _
     simp only [Act.put, qsA, qsB, qsC, i64_w, i32_w, qsD, qsE]
     rfl
    refine one_ (i := 4) (N := some 33) #[qt, qt, qt, qt, qt, qf, qf, qf] rfl rfl (one_of HT_.out (by kernel_rfl)) (by decide) (fun K hK => ?_)
    refine value_ (w1 := ?_) (v := ?_) (by rfl) rfl ?_ ?_
    rotate_left 2
    ·go_simp
     constructor
     ·rfl
     ·rfl
    refine hK.out _ _ ((blk_cell (qkC BK213.out _) 0).trans rfl) (fun hHeld => ?_)
    clear hK K
    refine norm_ (a' := ?_) ?_ ?_
    rotate_left
    ·show Act.put _ (some 33) _ = _
     simp only [Act.put, qsA, qsB, qsC, i64_w, i32_w, qsD, qsE]
     rfl
    refine one_ (i := 5) (N := some 34) #[qt, qt, qt, qt, qt, qt, qf, qf] rfl rfl (one_of HT_.out (by kernel_rfl)) (by decide) (fun K hK => ?_)
    refine Kd.S_append_step k39 (w0 := w) w.heap.size (by rfl) (.tmp 30) (.tmp 33) 22 39 (.agg #[(.string ⟨#[]⟩), (.bool false), (.slice none 0 0), (.int .i64 0), (.int .i64 0), (.int .i64 0), (.string ⟨#[]⟩), (.int .i64 0), (.int .i64 0)]) 104 rfl Tryd.underlying22 info39 rfl (by decide) (by omega) (.slice Ao25 x214000_1.length co25) x214000_1 (⟨t217, t218, t219, t222, t223, t224, t225, t226, t227⟩ : S39) [.string t217, .bool t218, .slice Ao29 t219.length co29, .int .i64 t222, .int .i64 t223, .int .i64 t224, .string t225, .int .i64 t226, .int .i64 t227] (fun _ => True) (fun k_ => some k_ = (.slice Ao29 t219.length co29 : Value).ownBlock) rfl rfl ?aP (fun k_ hk_ => ((Kd.R_mono (ok' := fun k_ => ((fun _ => True)) k_ ∧ some k_ ≠ (.slice Ao25 x214000_1.length co25 : Value).ownBlock) (Kd.R_apart' (HO221.out) (Kd.S_typed HO_214000.out) (by decide)) (fun k_ hk => ⟨trivial, hk.2⟩))).1 k_ hk_.symm) ?aF ?aO ?aB ?aS ?aL ?_
    (case aP => exact k39_mkM _ _ _ (⟨t217, t218, t219, t222, t223, t224, t225, t226, t227⟩ : S39) (Kd.R_mono (Kd.R_tight rfl (Kd.R_mono (ok' := fun k_ => ((fun _ => True)) k_ ∧ some k_ ≠ (.slice Ao25 x214000_1.length co25 : Value).ownBlock) (Kd.R_apart' (HO221.out) (Kd.S_typed HO_214000.out) (by decide)) (fun k_ hk => ⟨trivial, hk.2⟩))) (fun _ h_ => h_)))
    (case aB => exact (by repeat (first | (with_reducible first | exact HB.out | apply qbA | apply qbB | apply qbC | refine below_set ?_ (IsS94.ge HI212.out) | refine below_set ?_ GE211.out | refine below_set ?_ GE213.out) | exact HB.out)))
    (case aF => exact (fun _ _ => trivial))
    (case aO => exact (by (with_reducible repeat (first | apply Kd.S_alloc | apply Kd.S_drewN | apply Kd.S_drew)); exact Kd.S_mono HO_214000.out (fun k_ hk => ⟨trivial, fun e_ => hk.2 e_⟩)))
    (case aS => exact (below_size (by repeat (first | (with_reducible first | exact HB.out | apply qbA | apply qbB | apply qbC | refine below_set ?_ (IsS94.ge HI212.out) | refine below_set ?_ GE211.out | refine below_set ?_ GE213.out) | exact HB.out))))
    (case aL => have := LMc20.out; omega)
    intro v231 w28 ho hb hg hat
    rw [← Ny230.out] at ho
    have n0_ := qas (blk_grown (g := gb211) (o := .cells #[.slice none 0 0] 24 (0, 0)) (by (with_reducible repeat (first | refine qkA ?_ _ | refine qkB ?_ | refine qkC ?_ _)); exact BK211.out) hg (Kd.S_ne HO_214000.out BK211.out (by decide)))
    have n1_ := qas (blk_grown (g := gb213) (o := .cells #[.slice Ao25 x214000_1.length co25] 24 (0, 0)) (by (with_reducible repeat (first | refine qkA ?_ _ | refine qkB ?_ | refine qkC ?_ _)); exact BK213.out) hg (Kd.S_ne HO_214000.out BK213.out (by decide)))
    have n2_ := qas (IsS94.grown (by repeat (first | (with_reducible first | exact HI212.out | apply IsS94.alloc | apply IsS94.drewN | apply IsS94.drew | apply IsS94.set_0 | apply IsS94.set_1 | apply IsS94.farB (hne := NB212_211.out) | apply IsS94.farB (hne := NB212_213.out)) | exact HI212.out)) hg (IsS94.own_neS HI212.out HO_214000.out (by decide)))
    have n3_ := qas (hb)
    have n4_ := qas (ho)
    clear BK211
    clear BK213
    clear HI212
    clear HB
    clear HO_214000
    clear HO221
    have BK211 := n0_
    have BK213 := n1_
    have HI212 := n2_
    have HB := n3_
    have HO232 := n4_
    clear n0_ n1_ n2_ n3_ n4_
    clear ho hb hg hat
    obtain ⟨Ao30, co30, eo30⟩ := Kd.S_slice HO232.out
    (first | subst eo30 | (injection eo30 with f1_ f2_ f3_; have f4_ := f1_.symm; have f5_ := f3_.symm; clear f1_ f2_ f3_; subst f4_; subst f5_))
    refine hK.out _ _ ((blk_cell BK213.out 0).trans rfl) (fun hHeld => ?_)
    clear hK K
    refine norm_ (a' := ?_) ?_ ?_
    rotate_left
    ·show Act.put _ (some 34) _ = _
     simp only [Act.put, qsA, qsB, qsC, i64_w, i32_w, qsD, qsE]
     rfl
    refine pure_ (i := 6) (N := some 35) (v := ?_) (a' := ?_) #[qt, qt, qt, qt, qt, qt, qt, qf] rfl rfl (any_of HT_.out (by kernel_rfl)) (fun _ _ _ h => h) (Or.inl ⟨by rfl, ?_⟩) ?_ ?_
    rotate_left
    ·intro w'
     go_simp
     with_reducible rfl
    rotate_left
    ·simp only [Act.put, qsA, qsB, qsC, i64_w, i32_w, qsD, qsE]
     rfl
    refine last_ (i := 7) (N := none) #[qt, qt, qt, qt, qt, qt, qt, qt] rfl rfl (one_of HT_.out (by kernel_rfl)) (by decide) (fun K hK => ?_)
    have hs31 : w28.cell? ⟨gb213, 0, none⟩ = some (.slice Ao25 x214000_1.length co25) := (blk_cell BK213.out 0).trans rfl
    have hfs31 := blk_frozen BK213.out 0
    have hns31_0 := NB211_213.out
    have hms31_0 := NB213_211.out
    refine skip_ (w1 := ?_) (by rfl) rfl ?_ ?_
    rotate_left
    ·go_simp
     rfl
    refine hK.out _ _ ?_
    clear hK K
    refine done_ (done_of HT_.out (by kernel_rfl)) ?_
    try go_wp2
    go_roundg k1
    case measure => have := HK1.out; omega
    case rel => exact ⟨(t228), (t229), (y230), (.slice Ao30 y230.length co30), H', ⟨by have := HK1.out; omega⟩, ⟨by (with_reducible repeat (first | apply Kd.S_alloc | apply Kd.S_drewN | apply Kd.S_drew)); exact Kd.S_mono (Kd.S_far (p := ⟨gb213, 0, none⟩) (Kd.S_types HO232.out BK213.out (by decide)) (fun _ hk => hk.2) (.slice Ao30 y230.length co30)) (fun _ hk => trivial)⟩, ⟨by (with_reducible repeat (first | refine qkA ?_ _ | refine qkB ?_ | refine qkC ?_ _)); refine blk_far ?_ NB211_213.out _; (with_reducible repeat (first | refine qkA ?_ _ | refine qkB ?_ | refine qkC ?_ _)); exact BK211.out⟩, ⟨by (with_reducible repeat (first | refine qkA ?_ _ | refine qkB ?_ | refine qkC ?_ _)); refine blk_put (cs := #[.slice Ao25 x214000_1.length co25]) ?_ 0 _ rfl; (with_reducible repeat (first | refine qkA ?_ _ | refine qkB ?_ | refine qkC ?_ _)); exact BK213.out⟩, ⟨by repeat (first | (with_reducible first | exact HI212.out | apply IsS94.alloc | apply IsS94.drewN | apply IsS94.drew | apply IsS94.set_0 | apply IsS94.set_1 | apply IsS94.farB (hne := NB212_211.out) | apply IsS94.farB (hne := NB212_213.out)) | exact HI212.out)⟩, ⟨by repeat (first | (with_reducible first | exact HB.out | apply qbA | apply qbB | apply qbC | refine below_set ?_ (IsS94.ge HI212.out) | refine below_set ?_ GE211.out | refine below_set ?_ GE213.out) | exact HB.out)⟩⟩
   rw [if_neg c18] at H
   have c18b0 : decide ((x214000_1.length : Int) < 6) = false := decide_eq_false c18
   have c18b1 : decide (x214000_1.length < 6) = false := decide_eq_false (by omega)
   clear c18
   replace H := Option.bind_eq_some_iff.mp H
   obtain ⟨⟨t233, t234⟩, A320, H⟩ := H
   replace H : (if t234 = 0 then (if t233.toList = a0.toList then (some (x214000_1, 0)) else (some (([] : List (S39)), 1400))) else (some (([] : List (S39)), 1400))) = some (r1, r2) := H
   have A32 := qas A320
   clear A320
   by_cases c33 : t234 = 0
   rotate_left
   ·rw [if_neg c33] at H
    have c33b0 : (t234 == 0) = false := beq_eq_false_iff_ne.mpr c33
    have c33b1 : (t234 != 0) = true := bne_iff_ne.mpr c33
    simp only [Option.some.injEq, Prod.mk.injEq] at H
    obtain ⟨rfl, rfl⟩ := H
    obtain ⟨HGz54, hgz54⟩ := HI212.out
    have hcz54_0 := cellS94_0 HGz54
    have hcz54_1 := cellS94_1 HGz54
    have hfz54_0 := blk_frozen HGz54 0
    have hfz54_1 := blk_frozen HGz54 1
    clear HGz54 hgz54
    go_wp2_with (first | ((with_reducible refine gate_callee (f := 61) rfl ?_); refine goesL_ (some 15) rfl rfl Tryd.func61 (by kernel_rfl) rfl #[.string x213000_1, .string (⟨#[80, 75, 3, 4]⟩ : ByteArray)] rfl (by (try simp only [List.map_toArray, List.map_cons, List.map_nil]); first | done | rfl | (simp only [List.length_drop, List.length_take]; rfl)) ?_; (with_reducible refine (strings_HasPrefix.calls x213000_1 (⟨#[80, 75, 3, 4]⟩ : ByteArray) true _ A5.out).mono ?_); rintro e w' ⟨rfl, ⟨nd, rfl⟩⟩; refine ⟨_, rfl, ?_⟩; (try (rw [drewN_self wr]; generalize hq_ : World.drewN wr _ = wr; have n0_ : Aside0 (Kd.S k39 39 wr w.heap.size (fun _ => True) u214000 x214000_1) := ⟨by rw [← hq_]; exact (by (with_reducible repeat (first | apply Kd.S_alloc | apply Kd.S_drewN | apply Kd.S_drew)); exact HO_214000.out)⟩; have n1_ : Aside0 (wr.heap[gb211]? = some (.cells #[.slice none 0 0] 24 (0, 0))) := ⟨by rw [← hq_]; exact (by (with_reducible repeat (first | refine qkA ?_ _ | refine qkB ?_ | refine qkC ?_ _)); exact BK211.out)⟩; have n2_ : Aside0 (wr.heap[gb213]? = some (.cells #[u214000] 24 (0, 0))) := ⟨by rw [← hq_]; exact (by (with_reducible repeat (first | refine qkA ?_ _ | refine qkB ?_ | refine qkC ?_ _)); exact BK213.out)⟩; have n3_ : Aside0 (IsS94 w wr gb212 x213000_1 false) := ⟨by rw [← hq_]; exact (by repeat (first | (with_reducible first | exact HI212.out | apply IsS94.alloc | apply IsS94.drewN | apply IsS94.drew | apply IsS94.set_0 | apply IsS94.set_1 | apply IsS94.farB (hne := NB212_211.out) | apply IsS94.farB (hne := NB212_213.out)) | exact HI212.out))⟩; have n4_ : Aside0 (Below w.heap.size w wr) := ⟨by rw [← hq_]; exact (by repeat (first | (with_reducible first | exact HB.out | apply qbA | apply qbB | apply qbC | refine below_set ?_ (IsS94.ge HI212.out) | refine below_set ?_ GE211.out | refine below_set ?_ GE213.out) | exact HB.out))⟩; clear HO_214000 BK211 BK213 HI212 HB hq_; have HO_214000 := n0_; have BK211 := n1_; have BK213 := n2_; have HI212 := n3_; have HB := n4_; clear n0_ n1_ n2_ n3_ n4_)); (try (obtain ⟨HGy, hgy⟩ := HI212.out; have hcy0 := cellS94_0 HGy; have hfy0 := blk_frozen HGy 0; have hcy1 := cellS94_1 HGy; have hfy1 := blk_frozen HGy 1; clear HGy hgy)); have hnb55 := NB213_211.out; have hnc55 := NB211_213.out; have hnb56 := NB213_212.out; have hnc56 := NB212_213.out; have hcz57_0 : wr.cell? ⟨gb213, 0, none⟩ = some (u214000) := (blk_cell BK213.out 0).trans rfl; have hfz57_0 := blk_frozen BK213.out 0; obtain ⟨Ao58, co58, eo58⟩ := Kd.S_slice HO_214000.out; subst eo58) | ((with_reducible refine gate_callee (f := 17) rfl ?_); refine goesL_ (some 38) rfl rfl Tryd.func17 (by kernel_rfl) rfl #[.agg #[.slice Ao58 x214000_1.length co58]] rfl (by (try simp only [List.map_toArray, List.map_cons, List.map_nil]); first | done | rfl | (simp only [List.length_drop, List.length_take]; rfl)) ?_; (with_reducible refine (zipput_Put.calls _ _ x214000_1 t233 t234 _ ?side1 ?side2 A32.out).mono ?_); (case side1 => repeat (first | exact (Kd.S_reads' HO_214000.out).2.2 | (with_reducible refine Kd.C_alloc ?_ _) | (with_reducible refine Kd.C_drewN ?_ _) | (with_reducible refine Kd.C_drew ?_))); (case side2 => exact (Kd.S_reads' HO_214000.out).2.1); rintro e w59 ⟨rfl, hb⟩; refine ⟨_, rfl, ?_⟩; have n0_ := qas (Kd.S_below (by (with_reducible repeat (first | apply Kd.S_alloc | apply Kd.S_drewN | apply Kd.S_drew)); exact HO_214000.out) hb); have n1_ := qas (blk_below (g := gb211) (o := .cells #[.slice none 0 0] 24 (0, 0)) (by (with_reducible repeat (first | refine qkA ?_ _ | refine qkB ?_ | refine qkC ?_ _)); exact BK211.out) hb); have n2_ := qas (blk_below (g := gb213) (o := .cells #[.slice Ao58 x214000_1.length co58] 24 (0, 0)) (by (with_reducible repeat (first | refine qkA ?_ _ | refine qkB ?_ | refine qkC ?_ _)); exact BK213.out) hb); have n3_ := qas (IsS94.below (by repeat (first | (with_reducible first | exact HI212.out | apply IsS94.alloc | apply IsS94.drewN | apply IsS94.drew | apply IsS94.set_0 | apply IsS94.set_1 | apply IsS94.farB (hne := NB212_211.out) | apply IsS94.farB (hne := NB212_213.out)) | exact HI212.out)) hb); have n4_ := qas (below_step (by repeat (first | (with_reducible first | exact HB.out | apply qbA | apply qbB | apply qbC | refine below_set ?_ (IsS94.ge HI212.out) | refine below_set ?_ GE211.out | refine below_set ?_ GE213.out) | exact HB.out)) hb); clear HO_214000; clear BK211; clear BK213; clear HI212; clear HB; have HO_214000 := n0_; have BK211 := n1_; have BK213 := n2_; have HI212 := n3_; have HB := n4_; clear n0_ n1_ n2_ n3_ n4_; (try clear hb); (try clear hb2); (try clear hk); (try clear hi); obtain ⟨HGz60, hgz60⟩ := HI212.out; have hcz60_0 := cellS94_0 HGz60; have hcz60_1 := cellS94_1 HGz60; have hfz60_0 := blk_frozen HGz60 0; have hfz60_1 := blk_frozen HGz60 1; clear HGz60 hgz60; have hnb61 := NB211_212.out; have hnc61 := NB212_211.out; have hcz62_0 : w59.cell? ⟨gb211, 0, none⟩ = some (.slice none 0 0) := (blk_cell BK211.out 0).trans rfl; have hfz62_0 := blk_frozen BK211.out 0))
    refine bodyPost_ret (results_ct rfl _ _ gb211 24 #[.slice none 0 0] (0, 0) _ rfl (by (with_reducible repeat (first | refine qkA ?_ _ | refine qkB ?_ | refine qkC ?_ _)); refine blk_put (cs := #[.slice none 0 0]) ?_ 0 _ rfl; (with_reducible repeat (first | refine qkA ?_ _ | refine qkB ?_ | refine qkC ?_ _)); exact BK211.out) Tryd.underlying24 rfl (by kernel_rfl)) rfl ?_
    exact ⟨_, by first | rfl | (simp [errW_none, errW_some] <;> rfl) | (simp [*, errW_none, errW_some] <;> rfl), by first | exact Kd.S_nil _ _ _ _ _ | exact Kd.N_nil _ _ _ _ _ | exact Kd.V_nil _ _ _ _ _ | exact Kd.Q_nil _ _ _ _ _ | exact Kd.R_nil _ _ _ _ _, by repeat (first | (with_reducible first | exact HB.out | apply qbA | apply qbB | apply qbC | refine below_set ?_ (IsS94.ge HI212.out) | refine below_set ?_ GE211.out | refine below_set ?_ GE213.out) | exact HB.out)⟩
   rw [if_pos c33] at H
   have c33b0 : (t234 == 0) = true := beq_iff_eq.mpr c33
   have c33b1 : (t234 != 0) = false := bne_eq_false_iff_eq.mpr c33
   clear c33
   by_cases c34 : t233.toList = a0.toList
   rotate_left
   ·rw [if_neg c34] at H
    have c34b0 : (t233.toList == a0.toList) = false := beq_eq_false_iff_ne.mpr c34
    have c34b1 : (t233.toList != a0.toList) = true := bne_iff_ne.mpr c34
    simp only [Option.some.injEq, Prod.mk.injEq] at H
    obtain ⟨rfl, rfl⟩ := H
    obtain ⟨HGz45, hgz45⟩ := HI212.out
    have hcz45_0 := cellS94_0 HGz45
    have hcz45_1 := cellS94_1 HGz45
    have hfz45_0 := blk_frozen HGz45 0
    have hfz45_1 := blk_frozen HGz45 1
    clear HGz45 hgz45
    go_wp2_with (first | ((with_reducible refine gate_callee (f := 61) rfl ?_); refine goesL_ (some 15) rfl rfl Tryd.func61 (by kernel_rfl) rfl #[.string x213000_1, .string (⟨#[80, 75, 3, 4]⟩ : ByteArray)] rfl (by (try simp only [List.map_toArray, List.map_cons, List.map_nil]); first | done | rfl | (simp only [List.length_drop, List.length_take]; rfl)) ?_; (with_reducible refine (strings_HasPrefix.calls x213000_1 (⟨#[80, 75, 3, 4]⟩ : ByteArray) true _ A5.out).mono ?_); rintro e w' ⟨rfl, ⟨nd, rfl⟩⟩; refine ⟨_, rfl, ?_⟩; (try (rw [drewN_self wr]; generalize hq_ : World.drewN wr _ = wr; have n0_ : Aside0 (Kd.S k39 39 wr w.heap.size (fun _ => True) u214000 x214000_1) := ⟨by rw [← hq_]; exact (by (with_reducible repeat (first | apply Kd.S_alloc | apply Kd.S_drewN | apply Kd.S_drew)); exact HO_214000.out)⟩; have n1_ : Aside0 (wr.heap[gb211]? = some (.cells #[.slice none 0 0] 24 (0, 0))) := ⟨by rw [← hq_]; exact (by (with_reducible repeat (first | refine qkA ?_ _ | refine qkB ?_ | refine qkC ?_ _)); exact BK211.out)⟩; have n2_ : Aside0 (wr.heap[gb213]? = some (.cells #[u214000] 24 (0, 0))) := ⟨by rw [← hq_]; exact (by (with_reducible repeat (first | refine qkA ?_ _ | refine qkB ?_ | refine qkC ?_ _)); exact BK213.out)⟩; have n3_ : Aside0 (IsS94 w wr gb212 x213000_1 false) := ⟨by rw [← hq_]; exact (by repeat (first | (with_reducible first | exact HI212.out | apply IsS94.alloc | apply IsS94.drewN | apply IsS94.drew | apply IsS94.set_0 | apply IsS94.set_1 | apply IsS94.farB (hne := NB212_211.out) | apply IsS94.farB (hne := NB212_213.out)) | exact HI212.out))⟩; have n4_ : Aside0 (Below w.heap.size w wr) := ⟨by rw [← hq_]; exact (by repeat (first | (with_reducible first | exact HB.out | apply qbA | apply qbB | apply qbC | refine below_set ?_ (IsS94.ge HI212.out) | refine below_set ?_ GE211.out | refine below_set ?_ GE213.out) | exact HB.out))⟩; clear HO_214000 BK211 BK213 HI212 HB hq_; have HO_214000 := n0_; have BK211 := n1_; have BK213 := n2_; have HI212 := n3_; have HB := n4_; clear n0_ n1_ n2_ n3_ n4_)); (try (obtain ⟨HGy, hgy⟩ := HI212.out; have hcy0 := cellS94_0 HGy; have hfy0 := blk_frozen HGy 0; have hcy1 := cellS94_1 HGy; have hfy1 := blk_frozen HGy 1; clear HGy hgy)); have hnb46 := NB213_211.out; have hnc46 := NB211_213.out; have hnb47 := NB213_212.out; have hnc47 := NB212_213.out; have hcz48_0 : wr.cell? ⟨gb213, 0, none⟩ = some (u214000) := (blk_cell BK213.out 0).trans rfl; have hfz48_0 := blk_frozen BK213.out 0; obtain ⟨Ao49, co49, eo49⟩ := Kd.S_slice HO_214000.out; subst eo49) | ((with_reducible refine gate_callee (f := 17) rfl ?_); refine goesL_ (some 38) rfl rfl Tryd.func17 (by kernel_rfl) rfl #[.agg #[.slice Ao49 x214000_1.length co49]] rfl (by (try simp only [List.map_toArray, List.map_cons, List.map_nil]); first | done | rfl | (simp only [List.length_drop, List.length_take]; rfl)) ?_; (with_reducible refine (zipput_Put.calls _ _ x214000_1 t233 t234 _ ?side1 ?side2 A32.out).mono ?_); (case side1 => repeat (first | exact (Kd.S_reads' HO_214000.out).2.2 | (with_reducible refine Kd.C_alloc ?_ _) | (with_reducible refine Kd.C_drewN ?_ _) | (with_reducible refine Kd.C_drew ?_))); (case side2 => exact (Kd.S_reads' HO_214000.out).2.1); rintro e w50 ⟨rfl, hb⟩; refine ⟨_, rfl, ?_⟩; have n0_ := qas (Kd.S_below (by (with_reducible repeat (first | apply Kd.S_alloc | apply Kd.S_drewN | apply Kd.S_drew)); exact HO_214000.out) hb); have n1_ := qas (blk_below (g := gb211) (o := .cells #[.slice none 0 0] 24 (0, 0)) (by (with_reducible repeat (first | refine qkA ?_ _ | refine qkB ?_ | refine qkC ?_ _)); exact BK211.out) hb); have n2_ := qas (blk_below (g := gb213) (o := .cells #[.slice Ao49 x214000_1.length co49] 24 (0, 0)) (by (with_reducible repeat (first | refine qkA ?_ _ | refine qkB ?_ | refine qkC ?_ _)); exact BK213.out) hb); have n3_ := qas (IsS94.below (by repeat (first | (with_reducible first | exact HI212.out | apply IsS94.alloc | apply IsS94.drewN | apply IsS94.drew | apply IsS94.set_0 | apply IsS94.set_1 | apply IsS94.farB (hne := NB212_211.out) | apply IsS94.farB (hne := NB212_213.out)) | exact HI212.out)) hb); have n4_ := qas (below_step (by repeat (first | (with_reducible first | exact HB.out | apply qbA | apply qbB | apply qbC | refine below_set ?_ (IsS94.ge HI212.out) | refine below_set ?_ GE211.out | refine below_set ?_ GE213.out) | exact HB.out)) hb); clear HO_214000; clear BK211; clear BK213; clear HI212; clear HB; have HO_214000 := n0_; have BK211 := n1_; have BK213 := n2_; have HI212 := n3_; have HB := n4_; clear n0_ n1_ n2_ n3_ n4_; (try clear hb); (try clear hb2); (try clear hk); (try clear hi); obtain ⟨HGz51, hgz51⟩ := HI212.out; have hcz51_0 := cellS94_0 HGz51; have hcz51_1 := cellS94_1 HGz51; have hfz51_0 := blk_frozen HGz51 0; have hfz51_1 := blk_frozen HGz51 1; clear HGz51 hgz51; have hnb52 := NB211_212.out; have hnc52 := NB212_211.out; have hcz53_0 : w50.cell? ⟨gb211, 0, none⟩ = some (.slice none 0 0) := (blk_cell BK211.out 0).trans rfl; have hfz53_0 := blk_frozen BK211.out 0))
    refine bodyPost_ret (results_ct rfl _ _ gb211 24 #[.slice none 0 0] (0, 0) _ rfl (by (with_reducible repeat (first | refine qkA ?_ _ | refine qkB ?_ | refine qkC ?_ _)); refine blk_put (cs := #[.slice none 0 0]) ?_ 0 _ rfl; (with_reducible repeat (first | refine qkA ?_ _ | refine qkB ?_ | refine qkC ?_ _)); exact BK211.out) Tryd.underlying24 rfl (by kernel_rfl)) rfl ?_
    exact ⟨_, by first | rfl | (simp [errW_none, errW_some] <;> rfl) | (simp [*, errW_none, errW_some] <;> rfl), by first | exact Kd.S_nil _ _ _ _ _ | exact Kd.N_nil _ _ _ _ _ | exact Kd.V_nil _ _ _ _ _ | exact Kd.Q_nil _ _ _ _ _ | exact Kd.R_nil _ _ _ _ _, by repeat (first | (with_reducible first | exact HB.out | apply qbA | apply qbB | apply qbC | refine below_set ?_ (IsS94.ge HI212.out) | refine below_set ?_ GE211.out | refine below_set ?_ GE213.out) | exact HB.out)⟩
   rw [if_pos c34] at H
   have c34b0 : (t233.toList == a0.toList) = true := beq_iff_eq.mpr c34
   have c34b1 : (t233.toList != a0.toList) = false := bne_eq_false_iff_eq.mpr c34
   clear c34
   simp only [Option.some.injEq, Prod.mk.injEq] at H
   obtain ⟨rfl, rfl⟩ := H
   obtain ⟨HGz35, hgz35⟩ := HI212.out
   have hcz35_0 := cellS94_0 HGz35
   have hcz35_1 := cellS94_1 HGz35
   have hfz35_0 := blk_frozen HGz35 0
   have hfz35_1 := blk_frozen HGz35 1
   clear HGz35 hgz35
   go_wp2_with (first | ((with_reducible refine gate_callee (f := 61) rfl ?_); refine goesL_ (some 15) rfl rfl Tryd.func61 (by kernel_rfl) rfl #[.string x213000_1, .string (⟨#[80, 75, 3, 4]⟩ : ByteArray)] rfl (by (try simp only [List.map_toArray, List.map_cons, List.map_nil]); first | done | rfl | (simp only [List.length_drop, List.length_take]; rfl)) ?_; (with_reducible refine (strings_HasPrefix.calls x213000_1 (⟨#[80, 75, 3, 4]⟩ : ByteArray) true _ A5.out).mono ?_); rintro e w' ⟨rfl, ⟨nd, rfl⟩⟩; refine ⟨_, rfl, ?_⟩; (try (rw [drewN_self wr]; generalize hq_ : World.drewN wr _ = wr; have n0_ : Aside0 (Kd.S k39 39 wr w.heap.size (fun _ => True) u214000 x214000_1) := ⟨by rw [← hq_]; exact (by (with_reducible repeat (first | apply Kd.S_alloc | apply Kd.S_drewN | apply Kd.S_drew)); exact HO_214000.out)⟩; have n1_ : Aside0 (wr.heap[gb211]? = some (.cells #[.slice none 0 0] 24 (0, 0))) := ⟨by rw [← hq_]; exact (by (with_reducible repeat (first | refine qkA ?_ _ | refine qkB ?_ | refine qkC ?_ _)); exact BK211.out)⟩; have n2_ : Aside0 (wr.heap[gb213]? = some (.cells #[u214000] 24 (0, 0))) := ⟨by rw [← hq_]; exact (by (with_reducible repeat (first | refine qkA ?_ _ | refine qkB ?_ | refine qkC ?_ _)); exact BK213.out)⟩; have n3_ : Aside0 (IsS94 w wr gb212 x213000_1 false) := ⟨by rw [← hq_]; exact (by repeat (first | (with_reducible first | exact HI212.out | apply IsS94.alloc | apply IsS94.drewN | apply IsS94.drew | apply IsS94.set_0 | apply IsS94.set_1 | apply IsS94.farB (hne := NB212_211.out) | apply IsS94.farB (hne := NB212_213.out)) | exact HI212.out))⟩; have n4_ : Aside0 (Below w.heap.size w wr) := ⟨by rw [← hq_]; exact (by repeat (first | (with_reducible first | exact HB.out | apply qbA | apply qbB | apply qbC | refine below_set ?_ (IsS94.ge HI212.out) | refine below_set ?_ GE211.out | refine below_set ?_ GE213.out) | exact HB.out))⟩; clear HO_214000 BK211 BK213 HI212 HB hq_; have HO_214000 := n0_; have BK211 := n1_; have BK213 := n2_; have HI212 := n3_; have HB := n4_; clear n0_ n1_ n2_ n3_ n4_)); (try (obtain ⟨HGy, hgy⟩ := HI212.out; have hcy0 := cellS94_0 HGy; have hfy0 := blk_frozen HGy 0; have hcy1 := cellS94_1 HGy; have hfy1 := blk_frozen HGy 1; clear HGy hgy)); have hnb36 := NB213_211.out; have hnc36 := NB211_213.out; have hnb37 := NB213_212.out; have hnc37 := NB212_213.out; have hcz38_0 : wr.cell? ⟨gb213, 0, none⟩ = some (u214000) := (blk_cell BK213.out 0).trans rfl; have hfz38_0 := blk_frozen BK213.out 0; obtain ⟨Ao39, co39, eo39⟩ := Kd.S_slice HO_214000.out; subst eo39) | ((with_reducible refine gate_callee (f := 17) rfl ?_); refine goesL_ (some 38) rfl rfl Tryd.func17 (by kernel_rfl) rfl #[.agg #[.slice Ao39 x214000_1.length co39]] rfl (by (try simp only [List.map_toArray, List.map_cons, List.map_nil]); first | done | rfl | (simp only [List.length_drop, List.length_take]; rfl)) ?_; (with_reducible refine (zipput_Put.calls _ _ x214000_1 t233 t234 _ ?side1 ?side2 A32.out).mono ?_); (case side1 => repeat (first | exact (Kd.S_reads' HO_214000.out).2.2 | (with_reducible refine Kd.C_alloc ?_ _) | (with_reducible refine Kd.C_drewN ?_ _) | (with_reducible refine Kd.C_drew ?_))); (case side2 => exact (Kd.S_reads' HO_214000.out).2.1); rintro e w40 ⟨rfl, hb⟩; refine ⟨_, rfl, ?_⟩; have n0_ := qas (Kd.S_below (by (with_reducible repeat (first | apply Kd.S_alloc | apply Kd.S_drewN | apply Kd.S_drew)); exact HO_214000.out) hb); have n1_ := qas (blk_below (g := gb211) (o := .cells #[.slice none 0 0] 24 (0, 0)) (by (with_reducible repeat (first | refine qkA ?_ _ | refine qkB ?_ | refine qkC ?_ _)); exact BK211.out) hb); have n2_ := qas (blk_below (g := gb213) (o := .cells #[.slice Ao39 x214000_1.length co39] 24 (0, 0)) (by (with_reducible repeat (first | refine qkA ?_ _ | refine qkB ?_ | refine qkC ?_ _)); exact BK213.out) hb); have n3_ := qas (IsS94.below (by repeat (first | (with_reducible first | exact HI212.out | apply IsS94.alloc | apply IsS94.drewN | apply IsS94.drew | apply IsS94.set_0 | apply IsS94.set_1 | apply IsS94.farB (hne := NB212_211.out) | apply IsS94.farB (hne := NB212_213.out)) | exact HI212.out)) hb); have n4_ := qas (below_step (by repeat (first | (with_reducible first | exact HB.out | apply qbA | apply qbB | apply qbC | refine below_set ?_ (IsS94.ge HI212.out) | refine below_set ?_ GE211.out | refine below_set ?_ GE213.out) | exact HB.out)) hb); clear HO_214000; clear BK211; clear BK213; clear HI212; clear HB; have HO_214000 := n0_; have BK211 := n1_; have BK213 := n2_; have HI212 := n3_; have HB := n4_; clear n0_ n1_ n2_ n3_ n4_; (try clear hb); (try clear hb2); (try clear hk); (try clear hi); obtain ⟨HGz41, hgz41⟩ := HI212.out; have hcz41_0 := cellS94_0 HGz41; have hcz41_1 := cellS94_1 HGz41; have hfz41_0 := blk_frozen HGz41 0; have hfz41_1 := blk_frozen HGz41 1; clear HGz41 hgz41; have hcz42_0 : w40.cell? ⟨gb213, 0, none⟩ = some (.slice Ao39 x214000_1.length co39) := (blk_cell BK213.out 0).trans rfl; have hfz42_0 := blk_frozen BK213.out 0; have hnb43 := NB211_212.out; have hnc43 := NB212_211.out; have hcz44_0 : w40.cell? ⟨gb211, 0, none⟩ = some (.slice none 0 0) := (blk_cell BK211.out 0).trans rfl; have hfz44_0 := blk_frozen BK211.out 0))
   refine bodyPost_ret (results_ct rfl _ _ gb211 24 #[.slice Ao39 x214000_1.length co39] (0, 0) _ rfl (by (with_reducible repeat (first | refine qkA ?_ _ | refine qkB ?_ | refine qkC ?_ _)); refine blk_put (cs := #[.slice none 0 0]) ?_ 0 _ rfl; (with_reducible repeat (first | refine qkA ?_ _ | refine qkB ?_ | refine qkC ?_ _)); exact BK211.out) Tryd.underlying24 rfl (by kernel_rfl)) rfl ?_
   exact ⟨_, by first | rfl | (simp [errW_none, errW_some] <;> rfl) | (simp [*, errW_none, errW_some] <;> rfl), by (with_reducible repeat (first | apply Kd.S_alloc | apply Kd.S_drewN | apply Kd.S_drew)); exact Kd.S_mono (Kd.S_far (p := ⟨gb211, 0, none⟩) (Kd.S_types HO_214000.out BK211.out (by decide)) (fun _ hk => hk.2) (.slice Ao39 x214000_1.length co39)) (fun _ hk => trivial), by repeat (first | (with_reducible first | exact HB.out | apply qbA | apply qbB | apply qbC | refine below_set ?_ (IsS94.ge HI212.out) | refine below_set ?_ GE211.out | refine below_set ?_ GE213.out) | exact HB.out)⟩

attribute [local go_sem] max2_int min2_int max_two min_two max_three min_three max_four min_four   -- for this text's walks alone
set_option linter.unusedVariables false
set_option linter.unusedSimpArgs false

/-! ### pl_SameInts: function 111 -/
def pl_SameInts.l0 : Nat → List Int → List Int → Int → Option (Bool)
 | 0, _, _, _ => none
 | k + 1, x0, x1, x5 => if x5 < (x0.length : Int) then (if 0 ≤ x5 then (if x5 < (x1.length : Int) then (if (rd x0 x5) = (rd x1 x5) then (pl_SameInts.l0 k x0 x1 (wrap64 (x5 + 1))) else (some false)) else (none)) else (none)) else (some true)
def pl_SameInts.f (k : Nat) (l0 : List Int) (l1 : List Int) : Option (Bool) := if (l0.length : Int) = (l1.length : Int) then (pl_SameInts.l0 k l0 l1 0) else (some false)
theorem pl_SameInts.mono_l : ∀ k, (∀ y0 y1 y2, LeO (pl_SameInts.l0 k y0 y1 y2) (pl_SameInts.l0 (k + 1) y0 y1 y2))
 | 0 => fun _ _ _ r h => by simp [pl_SameInts.l0] at h
 | k + 1 => by
  have ih0 := pl_SameInts.mono_l k
  ·intro y0 y1 y2
   unfold pl_SameInts.l0
   repeat' first
   | (with_reducible exact ih0 _ _ _)
   | (with_reducible exact LeO.refl _)
   | (with_reducible exact LeO.none _)
   | (with_reducible refine LeO.ite ?_ ?_)
   | (with_reducible refine LeO.bind ?_ (fun _ => ?_))
   | exact ih0 _ _ _
   | exact LeO.none _
   | refine LeO.ite ?_ ?_
   | refine LeO.bind ?_ (fun _ => ?_)
theorem pl_SameInts.mono : ∀ a0 a1 k, LeO (pl_SameInts.f k a0 a1) (pl_SameInts.f (k + 1) a0 a1) := by
 intro a0 a1 k
 have ih0 := pl_SameInts.mono_l k
 unfold pl_SameInts.f
 repeat' first
   | (with_reducible exact ih0 _ _ _)
   | (with_reducible exact LeO.refl _)
   | (with_reducible exact LeO.none _)
   | (with_reducible refine LeO.ite ?_ ?_)
   | (with_reducible refine LeO.bind ?_ (fun _ => ?_))
   | exact ih0 _ _ _
   | exact LeO.none _
   | refine LeO.ite ?_ ?_
   | refine LeO.bind ?_ (fun _ => ?_)
set_option maxHeartbeats 8000000 in
set_option maxRecDepth 100000 in
theorem pl_SameInts.calls (k : Nat) (A0 : Option Addr) (c0 : Nat) (l0 : List Int) (A1 : Option Addr) (c1 : Nat) (l1 : List Int) (r : Bool) (w : World) (hr0 : Kd.C (Kd.int .i64) w A0 l0.length l0) (hc0 : l0.length ≤ c0) (hr1 : Kd.C (Kd.int .i64) w A1 l1.length l1) (hc1 : l1.length ≤ c1) (h : pl_SameInts.f k l0 l1 = some r) :
  Calls Tryd.prog 111 #[.slice A0 l0.length c0, .slice A1 l1.length c1] w fun e w' => e = .returned (.bool r) ∧ Drawn0 w w' := by
 have HR0 := qas hr0
 have HC0 := qas hc0
 clear hr0 hc0
 have HR1 := qas hr1
 have HC1 := qas hc1
 clear hr1 hc1
 have H : (if (l0.length : Int) = (l1.length : Int) then (pl_SameInts.l0 k l0 l1 0) else (some false)) = some r := h
 clear h
 by_cases c3 : (l0.length : Int) = (l1.length : Int)
 rotate_left
 ·rw [if_neg c3] at H
  have c3b0 : ((l0.length : Int) == (l1.length : Int)) = false := beq_eq_false_iff_ne.mpr c3
  have c3b1 : ((l0.length : Int) != (l1.length : Int)) = true := bne_iff_ne.mpr c3
  have c3b2 : (l0.length == l1.length) = false := by first | simpa using c3 | (simp at c3 ⊢; omega)
  obtain rfl := Option.some.inj H
  go_enter Tryd.func111, Tryd.ntmps111
  go_wp2
  repeat (go_quiet (fail); try go_wp2)
  go_ret
  exact ⟨by first | rfl | (simp; done) | (simp [*]; done), by repeat (first | exact Drawn0.refl _ | apply Drawn0.step)⟩
 rw [if_pos c3] at H
 have c3b0 : ((l0.length : Int) == (l1.length : Int)) = true := beq_iff_eq.mpr c3
 have c3b1 : ((l0.length : Int) != (l1.length : Int)) = false := bne_eq_false_iff_eq.mpr c3
 have c3b2 : (l0.length == l1.length) = true := by first | simpa using c3 | (simp at c3 ⊢; omega)
 clear c3
 have H' := qas H
 clear H
 go_enter Tryd.func111, Tryd.ntmps111
 go_wp2
 repeat (go_quiet (fail); try go_wp2)
 go_loopg [5] k (fun kq v5 w' => ∃ (x5_1 : Int), v5 = .int .i64 x5_1 ∧ Aside0 (pl_SameInts.l0 kq l0 l1 x5_1 = some r) ∧ Aside0 (kq ≤ k) ∧ Drawn0 w w')
 case atStart => exact ⟨(0), (by first | rfl | (simp; done) | (simp [*]; done)), H', ⟨Nat.le_refl _⟩, by repeat (first | exact Drawn0.refl _ | apply Drawn0.step)⟩
 case round =>
  clear H'
  try clear c1
  try clear p2
  try clear c3
  try clear c3b0
  try clear c3b1
  try clear c3b2
  obtain ⟨x5_1, rfl, HA, HK1, ⟨m1, rfl⟩⟩ := hrel
  cases gk with
  | zero => exact absurd HA.out (by simp [pl_SameInts.l0])
  | succ k1 =>
   have H := HA.out
   clear HA
   simp only [pl_SameInts.l0] at H
   by_cases c4 : x5_1 < (l0.length : Int)
   rotate_left
   ·rw [if_neg c4] at H
    have c4b0 : decide (x5_1 < (l0.length : Int)) = false := decide_eq_false c4
    clear c4
    obtain rfl := Option.some.inj H
    go_wp2
    repeat (go_quiet (fail); try go_wp2)
    go_ret
    exact ⟨by first | rfl | (simp; done) | (simp [*]; done), by repeat (first | exact Drawn0.refl _ | apply Drawn0.step)⟩
   rw [if_pos c4] at H
   have c4b0 : decide (x5_1 < (l0.length : Int)) = true := decide_eq_true c4
   clear c4
   by_cases c5 : 0 ≤ x5_1
   rotate_left
   ·rw [if_neg c5] at H
    exact absurd H (by simp)
   rw [if_pos c5] at H
   have c5b0 : decide (0 ≤ x5_1) = true := decide_eq_true c5
   clear c5
   by_cases c6 : x5_1 < (l1.length : Int)
   rotate_left
   ·rw [if_neg c6] at H
    exact absurd H (by simp)
   rw [if_pos c6] at H
   have c6b0 : decide (x5_1 < (l1.length : Int)) = true := decide_eq_true c6
   clear c6
   by_cases c7 : (rd l0 x5_1) = (rd l1 x5_1)
   rotate_left
   ·rw [if_neg c7] at H
    have c7b0 : ((rd l0 x5_1) == (rd l1 x5_1)) = false := beq_eq_false_iff_ne.mpr c7
    have c7b1 : ((rd l0 x5_1) != (rd l1 x5_1)) = true := bne_iff_ne.mpr c7
    obtain rfl := Option.some.inj H
    have p237 : 0 ≤ (x5_1 : Int) := qde (by first | (with_reducible assumption) | assumption)
    have q237 : x5_1 < (l0.length : Int) := qde (by first | (with_reducible assumption) | assumption)
    obtain ⟨ad237, e237, hx237_0⟩ := Kd.at_int HR0.out x5_1 p237 q237
    cases e237
    replace p237 := eq_true p237
    replace q237 := eq_true q237
    have p238 : 0 ≤ (x5_1 : Int) := qde (by first | (with_reducible assumption) | assumption)
    have q238 : x5_1 < (l1.length : Int) := qde (by first | (with_reducible assumption) | assumption)
    obtain ⟨ad238, e238, hx238_0⟩ := Kd.at_int HR1.out x5_1 p238 q238
    cases e238
    replace p238 := eq_true p238
    replace q238 := eq_true q238
    go_wp2
    repeat (go_quiet (fail); try go_wp2)
    go_ret
    exact ⟨by first | rfl | (simp; done) | (simp [*]; done), by repeat (first | exact Drawn0.refl _ | apply Drawn0.step)⟩
   rw [if_pos c7] at H
   have c7b0 : ((rd l0 x5_1) == (rd l1 x5_1)) = true := beq_iff_eq.mpr c7
   have c7b1 : ((rd l0 x5_1) != (rd l1 x5_1)) = false := bne_eq_false_iff_eq.mpr c7
   clear c7
   have H' := qas H
   clear H
   have p237 : 0 ≤ (x5_1 : Int) := qde (by first | (with_reducible assumption) | assumption)
   have q237 : x5_1 < (l0.length : Int) := qde (by first | (with_reducible assumption) | assumption)
   obtain ⟨ad237, e237, hx237_0⟩ := Kd.at_int HR0.out x5_1 p237 q237
   cases e237
   replace p237 := eq_true p237
   replace q237 := eq_true q237
   have p238 : 0 ≤ (x5_1 : Int) := qde (by first | (with_reducible assumption) | assumption)
   have q238 : x5_1 < (l1.length : Int) := qde (by first | (with_reducible assumption) | assumption)
   obtain ⟨ad238, e238, hx238_0⟩ := Kd.at_int HR1.out x5_1 p238 q238
   cases e238
   replace p238 := eq_true p238
   replace q238 := eq_true q238
   go_wp2
   repeat (go_quiet (fail); try go_wp2)
   go_roundg k1
   case measure => have := HK1.out; omega
   case rel => exact ⟨(wrap64 (x5_1 + 1)), (by first | rfl | (simp; done) | (simp [*]; done)), H', ⟨by have := HK1.out; omega⟩, by repeat (first | exact Drawn0.refl _ | apply Drawn0.step)⟩

/-! ### pl_SameEntry: function 88 -/
def pl_SameEntry.f (k : Nat) (a0_0 : ByteArray) (a0_1 : Bool) (l0_2 : List Int) (a0_3 : Int) (a0_4 : Int) (a0_5 : Int) (a0_6 : ByteArray) (a0_7 : Int) (a0_8 : Int) (a1_0 : ByteArray) (a1_1 : Bool) (l1_2 : List Int) (a1_3 : Int) (a1_4 : Int) (a1_5 : Int) (a1_6 : ByteArray) (a1_7 : Int) (a1_8 : Int) : Option (Bool) := if a0_0.toList = a1_0.toList then (if (a0_1 == a1_1) = true then ((pl_SameInts.f k l0_2 l1_2).bind fun t241 => (if t241 = true then (if a0_3 = a1_3 then (if a0_4 = a1_4 then (if a0_5 = a1_5 then (if a0_6.toList = a1_6.toList then (if a0_7 = a1_7 then (some (a0_8 == a1_8)) else (some false)) else (some false)) else (some false)) else (some false)) else (some false)) else (some false))) else (some false)) else (some false)
theorem pl_SameEntry.mono : ∀ a0 a1 a2 a3 a4 a5 a6 a7 a8 a9 a10 a11 a12 a13 a14 a15 a16 a17 k, LeO (pl_SameEntry.f k a0 a1 a2 a3 a4 a5 a6 a7 a8 a9 a10 a11 a12 a13 a14 a15 a16 a17) (pl_SameEntry.f (k + 1) a0 a1 a2 a3 a4 a5 a6 a7 a8 a9 a10 a11 a12 a13 a14 a15 a16 a17) := by
 intro a0 a1 a2 a3 a4 a5 a6 a7 a8 a9 a10 a11 a12 a13 a14 a15 a16 a17 k
 unfold pl_SameEntry.f
 repeat' first
   | (with_reducible exact pl_SameInts.mono _ _ _)
   | (with_reducible exact LeO.refl _)
   | (with_reducible exact LeO.none _)
   | (with_reducible refine LeO.ite ?_ ?_)
   | (with_reducible refine LeO.bind ?_ (fun _ => ?_))
   | exact pl_SameInts.mono _ _ _
   | exact LeO.none _
   | refine LeO.ite ?_ ?_
   | refine LeO.bind ?_ (fun _ => ?_)
set_option maxHeartbeats 8000000 in
set_option maxRecDepth 100000 in
theorem pl_SameEntry.calls (k : Nat) (a0_0 : ByteArray) (a0_1 : Bool) (A0_2 : Option Addr) (c0_2 : Nat) (l0_2 : List Int) (a0_3 : Int) (a0_4 : Int) (a0_5 : Int) (a0_6 : ByteArray) (a0_7 : Int) (a0_8 : Int) (a1_0 : ByteArray) (a1_1 : Bool) (A1_2 : Option Addr) (c1_2 : Nat) (l1_2 : List Int) (a1_3 : Int) (a1_4 : Int) (a1_5 : Int) (a1_6 : ByteArray) (a1_7 : Int) (a1_8 : Int) (r : Bool) (w : World) (hr0_2 : Kd.C (Kd.int .i64) w A0_2 l0_2.length l0_2) (hc0_2 : l0_2.length ≤ c0_2) (hr1_2 : Kd.C (Kd.int .i64) w A1_2 l1_2.length l1_2) (hc1_2 : l1_2.length ≤ c1_2) (h : pl_SameEntry.f k a0_0 a0_1 l0_2 a0_3 a0_4 a0_5 a0_6 a0_7 a0_8 a1_0 a1_1 l1_2 a1_3 a1_4 a1_5 a1_6 a1_7 a1_8 = some r) :
  Calls Tryd.prog 88 #[.agg #[.string a0_0, .bool a0_1, .slice A0_2 l0_2.length c0_2, .int .i64 a0_3, .int .i64 a0_4, .int .i64 a0_5, .string a0_6, .int .i64 a0_7, .int .i64 a0_8], .agg #[.string a1_0, .bool a1_1, .slice A1_2 l1_2.length c1_2, .int .i64 a1_3, .int .i64 a1_4, .int .i64 a1_5, .string a1_6, .int .i64 a1_7, .int .i64 a1_8]] w fun e w' => e = .returned (.bool r) ∧ Below w.heap.size w w' := by
 have hu39 := Tryd.underlying39
 have HR0_2 := qas hr0_2
 have HC0_2 := qas hc0_2
 clear hr0_2 hc0_2
 have HR1_2 := qas hr1_2
 have HC1_2 := qas hc1_2
 clear hr1_2 hc1_2
 have HB := qas (Below.refl w.heap.size w)
 have H : (if a0_0.toList = a1_0.toList then (if (a0_1 == a1_1) = true then ((pl_SameInts.f k l0_2 l1_2).bind fun t241 => (if t241 = true then (if a0_3 = a1_3 then (if a0_4 = a1_4 then (if a0_5 = a1_5 then (if a0_6.toList = a1_6.toList then (if a0_7 = a1_7 then (some (a0_8 == a1_8)) else (some false)) else (some false)) else (some false)) else (some false)) else (some false)) else (some false))) else (some false)) else (some false)) = some r := h
 clear h
 by_cases c3 : a0_0.toList = a1_0.toList
 rotate_left
 ·rw [if_neg c3] at H
  have c3b0 : (a0_0.toList == a1_0.toList) = false := beq_eq_false_iff_ne.mpr c3
  have c3b1 : (a0_0.toList != a1_0.toList) = true := bne_iff_ne.mpr c3
  obtain rfl := Option.some.inj H
  go_enter Tryd.func88, Tryd.ntmps88
  go_wp2_with (first | ((with_reducible refine gate_dst (N := 2) rfl ?_); refine box_event ?hg (N := 2) ?hd (cs := #[.string a0_0, .bool a0_1, .slice A0_2 l0_2.length c0_2, .int .i64 a0_3, .int .i64 a0_4, .int .i64 a0_5, .string a0_6, .int .i64 a0_7, .int .i64 a0_8]) (t := 39) ?hr ?_; (case hd => rfl); (case hg => rfl); (case hr => first | (go_simp; done) | (go_simp; rfl)); intro gb239 hg w52 hbox hb; have n0_ := qas (below_step (by repeat (first | (with_reducible first | exact HB.out | apply qbA | apply qbB | apply qbC) | exact HB.out)) hb); have n1_ := qas (hbox); have n2_ := qas ((by rw [hg]; exact (below_size (by repeat (first | (with_reducible first | exact HB.out | apply qbA | apply qbB | apply qbC) | exact HB.out))) : w.heap.size ≤ gb239)); have n3_ := qas ((by rw [hg]; exact (below_size (by repeat (first | (with_reducible first | exact HB.out | apply qbA | apply qbB | apply qbC) | exact HB.out))) : w.heap.size ≤ gb239)); clear HB; have HB := n0_; have BK239 := n1_; have GW239 := n2_; have GE239 := n3_; clear n0_ n1_ n2_ n3_; clear hb hbox hg) | ((with_reducible refine gate_dst (N := 3) rfl ?_); refine box_event ?hg (N := 3) ?hd (cs := #[.string a1_0, .bool a1_1, .slice A1_2 l1_2.length c1_2, .int .i64 a1_3, .int .i64 a1_4, .int .i64 a1_5, .string a1_6, .int .i64 a1_7, .int .i64 a1_8]) (t := 39) ?hr ?_; (case hd => rfl); (case hg => rfl); (case hr => first | (go_simp; done) | (go_simp; rfl)); intro gb240 hg w53 hbox hb; have n0_ := qas (blk_below (g := gb239) (o := .cells #[.string a0_0, .bool a0_1, .slice A0_2 l0_2.length c0_2, .int .i64 a0_3, .int .i64 a0_4, .int .i64 a0_5, .string a0_6, .int .i64 a0_7, .int .i64 a0_8] 39 (0, 0)) (by (with_reducible repeat (first | refine qkA ?_ _ | refine qkB ?_ | refine qkC ?_ _)); exact BK239.out) hb); have n1_ := qas (below_step (by repeat (first | (with_reducible first | exact HB.out | apply qbA | apply qbB | apply qbC | refine below_set ?_ GE239.out) | exact HB.out)) hb); have n2_ := qas (hbox); have n3_ := qas ((by rw [hg]; exact (below_size (by repeat (first | (with_reducible first | exact HB.out | apply qbA | apply qbB | apply qbC | refine below_set ?_ GE239.out) | exact HB.out))) : w.heap.size ≤ gb240)); have n4_ := qas ((by rw [hg]; exact (below_size (by repeat (first | (with_reducible first | exact HB.out | apply qbA | apply qbB | apply qbC | refine below_set ?_ GE239.out) | exact HB.out))) : w.heap.size ≤ gb240)); have n5_ := qas ((by rw [hg]; exact Nat.ne_of_lt (blk_lt (g := gb239) (o := .cells #[.string a0_0, .bool a0_1, .slice A0_2 l0_2.length c0_2, .int .i64 a0_3, .int .i64 a0_4, .int .i64 a0_5, .string a0_6, .int .i64 a0_7, .int .i64 a0_8] 39 (0, 0)) (by (with_reducible repeat (first | refine qkA ?_ _ | refine qkB ?_ | refine qkC ?_ _)); exact BK239.out)) : gb239 ≠ gb240)); have n6_ := qas ((by rw [hg]; exact Nat.ne_of_gt (blk_lt (g := gb239) (o := .cells #[.string a0_0, .bool a0_1, .slice A0_2 l0_2.length c0_2, .int .i64 a0_3, .int .i64 a0_4, .int .i64 a0_5, .string a0_6, .int .i64 a0_7, .int .i64 a0_8] 39 (0, 0)) (by (with_reducible repeat (first | refine qkA ?_ _ | refine qkB ?_ | refine qkC ?_ _)); exact BK239.out)) : gb240 ≠ gb239)); clear BK239; clear HB; have BK239 := n0_; have HB := n1_; have BK240 := n2_; have GW240 := n3_; have GE240 := n4_; have NB239_240 := n5_; have NB240_239 := n6_; clear n0_ n1_ n2_ n3_ n4_ n5_ n6_; clear hb hbox hg; have hnb54 := NB239_240.out; have hnc54 := NB240_239.out; have hcz55_0 : w53.cell? ⟨gb239, 0, none⟩ = some (.string a0_0) := (blk_cell BK239.out 0).trans rfl; have hcz55_1 : w53.cell? ⟨gb239, 1, none⟩ = some (.bool a0_1) := (blk_cell BK239.out 1).trans rfl; have hcz55_2 : w53.cell? ⟨gb239, 2, none⟩ = some (.slice A0_2 l0_2.length c0_2) := (blk_cell BK239.out 2).trans rfl; have hcz55_3 : w53.cell? ⟨gb239, 3, none⟩ = some (.int .i64 a0_3) := (blk_cell BK239.out 3).trans rfl; have hcz55_4 : w53.cell? ⟨gb239, 4, none⟩ = some (.int .i64 a0_4) := (blk_cell BK239.out 4).trans rfl; have hcz55_5 : w53.cell? ⟨gb239, 5, none⟩ = some (.int .i64 a0_5) := (blk_cell BK239.out 5).trans rfl; have hcz55_6 : w53.cell? ⟨gb239, 6, none⟩ = some (.string a0_6) := (blk_cell BK239.out 6).trans rfl; have hcz55_7 : w53.cell? ⟨gb239, 7, none⟩ = some (.int .i64 a0_7) := (blk_cell BK239.out 7).trans rfl; have hcz55_8 : w53.cell? ⟨gb239, 8, none⟩ = some (.int .i64 a0_8) := (blk_cell BK239.out 8).trans rfl; have hfz55_0 := blk_frozen BK239.out 0; have hfz55_1 := blk_frozen BK239.out 1; have hfz55_2 := blk_frozen BK239.out 2; have hfz55_3 := blk_frozen BK239.out 3; have hfz55_4 := blk_frozen BK239.out 4; have hfz55_5 := blk_frozen BK239.out 5; have hfz55_6 := blk_frozen BK239.out 6; have hfz55_7 := blk_frozen BK239.out 7; have hfz55_8 := blk_frozen BK239.out 8; have hcz56_0 : w53.cell? ⟨gb240, 0, none⟩ = some (.string a1_0) := (blk_cell BK240.out 0).trans rfl; have hcz56_1 : w53.cell? ⟨gb240, 1, none⟩ = some (.bool a1_1) := (blk_cell BK240.out 1).trans rfl; have hcz56_2 : w53.cell? ⟨gb240, 2, none⟩ = some (.slice A1_2 l1_2.length c1_2) := (blk_cell BK240.out 2).trans rfl; have hcz56_3 : w53.cell? ⟨gb240, 3, none⟩ = some (.int .i64 a1_3) := (blk_cell BK240.out 3).trans rfl; have hcz56_4 : w53.cell? ⟨gb240, 4, none⟩ = some (.int .i64 a1_4) := (blk_cell BK240.out 4).trans rfl; have hcz56_5 : w53.cell? ⟨gb240, 5, none⟩ = some (.int .i64 a1_5) := (blk_cell BK240.out 5).trans rfl; have hcz56_6 : w53.cell? ⟨gb240, 6, none⟩ = some (.string a1_6) := (blk_cell BK240.out 6).trans rfl; have hcz56_7 : w53.cell? ⟨gb240, 7, none⟩ = some (.int .i64 a1_7) := (blk_cell BK240.out 7).trans rfl; have hcz56_8 : w53.cell? ⟨gb240, 8, none⟩ = some (.int .i64 a1_8) := (blk_cell BK240.out 8).trans rfl; have hfz56_0 := blk_frozen BK240.out 0; have hfz56_1 := blk_frozen BK240.out 1; have hfz56_2 := blk_frozen BK240.out 2; have hfz56_3 := blk_frozen BK240.out 3; have hfz56_4 := blk_frozen BK240.out 4; have hfz56_5 := blk_frozen BK240.out 5; have hfz56_6 := blk_frozen BK240.out 6; have hfz56_7 := blk_frozen BK240.out 7; have hfz56_8 := blk_frozen BK240.out 8))
  go_ret
  exact ⟨by first | rfl | (simp [errW_none, errW_some] <;> rfl) | (simp [*, errW_none, errW_some] <;> rfl), by repeat (first | (with_reducible first | exact HB.out | apply qbA | apply qbB | apply qbC | refine below_set ?_ GE239.out | refine below_set ?_ GE240.out) | exact HB.out)⟩
 rw [if_pos c3] at H
 have c3b0 : (a0_0.toList == a1_0.toList) = true := beq_iff_eq.mpr c3
 have c3b1 : (a0_0.toList != a1_0.toList) = false := bne_eq_false_iff_eq.mpr c3
 clear c3
 by_cases c4 : (a0_1 == a1_1) = true
 rotate_left
 ·rw [if_neg c4] at H
  have c4b0 : (a0_1 == a1_1) = false := by simpa using c4
  (try (have c4b1 : decide (a0_1 = a1_1) = false := by simpa using c4))
  (try (have c4b2 : (a0_1 == a1_1) = false := by simpa using c4))
  (try (have c4b3 : ¬ (a0_1 = a1_1) := by simpa using c4))
  clear c4
  obtain rfl := Option.some.inj H
  go_enter Tryd.func88, Tryd.ntmps88
  go_wp2_with (first | ((with_reducible refine gate_dst (N := 2) rfl ?_); refine box_event ?hg (N := 2) ?hd (cs := #[.string a0_0, .bool a0_1, .slice A0_2 l0_2.length c0_2, .int .i64 a0_3, .int .i64 a0_4, .int .i64 a0_5, .string a0_6, .int .i64 a0_7, .int .i64 a0_8]) (t := 39) ?hr ?_; (case hd => rfl); (case hg => rfl); (case hr => first | (go_simp; done) | (go_simp; rfl)); intro gb239 hg w47 hbox hb; have n0_ := qas (below_step (by repeat (first | (with_reducible first | exact HB.out | apply qbA | apply qbB | apply qbC) | exact HB.out)) hb); have n1_ := qas (hbox); have n2_ := qas ((by rw [hg]; exact (below_size (by repeat (first | (with_reducible first | exact HB.out | apply qbA | apply qbB | apply qbC) | exact HB.out))) : w.heap.size ≤ gb239)); have n3_ := qas ((by rw [hg]; exact (below_size (by repeat (first | (with_reducible first | exact HB.out | apply qbA | apply qbB | apply qbC) | exact HB.out))) : w.heap.size ≤ gb239)); clear HB; have HB := n0_; have BK239 := n1_; have GW239 := n2_; have GE239 := n3_; clear n0_ n1_ n2_ n3_; clear hb hbox hg) | ((with_reducible refine gate_dst (N := 3) rfl ?_); refine box_event ?hg (N := 3) ?hd (cs := #[.string a1_0, .bool a1_1, .slice A1_2 l1_2.length c1_2, .int .i64 a1_3, .int .i64 a1_4, .int .i64 a1_5, .string a1_6, .int .i64 a1_7, .int .i64 a1_8]) (t := 39) ?hr ?_; (case hd => rfl); (case hg => rfl); (case hr => first | (go_simp; done) | (go_simp; rfl)); intro gb240 hg w48 hbox hb; have n0_ := qas (blk_below (g := gb239) (o := .cells #[.string a0_0, .bool a0_1, .slice A0_2 l0_2.length c0_2, .int .i64 a0_3, .int .i64 a0_4, .int .i64 a0_5, .string a0_6, .int .i64 a0_7, .int .i64 a0_8] 39 (0, 0)) (by (with_reducible repeat (first | refine qkA ?_ _ | refine qkB ?_ | refine qkC ?_ _)); exact BK239.out) hb); have n1_ := qas (below_step (by repeat (first | (with_reducible first | exact HB.out | apply qbA | apply qbB | apply qbC | refine below_set ?_ GE239.out) | exact HB.out)) hb); have n2_ := qas (hbox); have n3_ := qas ((by rw [hg]; exact (below_size (by repeat (first | (with_reducible first | exact HB.out | apply qbA | apply qbB | apply qbC | refine below_set ?_ GE239.out) | exact HB.out))) : w.heap.size ≤ gb240)); have n4_ := qas ((by rw [hg]; exact (below_size (by repeat (first | (with_reducible first | exact HB.out | apply qbA | apply qbB | apply qbC | refine below_set ?_ GE239.out) | exact HB.out))) : w.heap.size ≤ gb240)); have n5_ := qas ((by rw [hg]; exact Nat.ne_of_lt (blk_lt (g := gb239) (o := .cells #[.string a0_0, .bool a0_1, .slice A0_2 l0_2.length c0_2, .int .i64 a0_3, .int .i64 a0_4, .int .i64 a0_5, .string a0_6, .int .i64 a0_7, .int .i64 a0_8] 39 (0, 0)) (by (with_reducible repeat (first | refine qkA ?_ _ | refine qkB ?_ | refine qkC ?_ _)); exact BK239.out)) : gb239 ≠ gb240)); have n6_ := qas ((by rw [hg]; exact Nat.ne_of_gt (blk_lt (g := gb239) (o := .cells #[.string a0_0, .bool a0_1, .slice A0_2 l0_2.length c0_2, .int .i64 a0_3, .int .i64 a0_4, .int .i64 a0_5, .string a0_6, .int .i64 a0_7, .int .i64 a0_8] 39 (0, 0)) (by (with_reducible repeat (first | refine qkA ?_ _ | refine qkB ?_ | refine qkC ?_ _)); exact BK239.out)) : gb240 ≠ gb239)); clear BK239; clear HB; have BK239 := n0_; have HB := n1_; have BK240 := n2_; have GW240 := n3_; have GE240 := n4_; have NB239_240 := n5_; have NB240_239 := n6_; clear n0_ n1_ n2_ n3_ n4_ n5_ n6_; clear hb hbox hg; have hnb49 := NB239_240.out; have hnc49 := NB240_239.out; have hcz50_0 : w48.cell? ⟨gb239, 0, none⟩ = some (.string a0_0) := (blk_cell BK239.out 0).trans rfl; have hcz50_1 : w48.cell? ⟨gb239, 1, none⟩ = some (.bool a0_1) := (blk_cell BK239.out 1).trans rfl; have hcz50_2 : w48.cell? ⟨gb239, 2, none⟩ = some (.slice A0_2 l0_2.length c0_2) := (blk_cell BK239.out 2).trans rfl; have hcz50_3 : w48.cell? ⟨gb239, 3, none⟩ = some (.int .i64 a0_3) := (blk_cell BK239.out 3).trans rfl; have hcz50_4 : w48.cell? ⟨gb239, 4, none⟩ = some (.int .i64 a0_4) := (blk_cell BK239.out 4).trans rfl; have hcz50_5 : w48.cell? ⟨gb239, 5, none⟩ = some (.int .i64 a0_5) := (blk_cell BK239.out 5).trans rfl; have hcz50_6 : w48.cell? ⟨gb239, 6, none⟩ = some (.string a0_6) := (blk_cell BK239.out 6).trans rfl; have hcz50_7 : w48.cell? ⟨gb239, 7, none⟩ = some (.int .i64 a0_7) := (blk_cell BK239.out 7).trans rfl; have hcz50_8 : w48.cell? ⟨gb239, 8, none⟩ = some (.int .i64 a0_8) := (blk_cell BK239.out 8).trans rfl; have hfz50_0 := blk_frozen BK239.out 0; have hfz50_1 := blk_frozen BK239.out 1; have hfz50_2 := blk_frozen BK239.out 2; have hfz50_3 := blk_frozen BK239.out 3; have hfz50_4 := blk_frozen BK239.out 4; have hfz50_5 := blk_frozen BK239.out 5; have hfz50_6 := blk_frozen BK239.out 6; have hfz50_7 := blk_frozen BK239.out 7; have hfz50_8 := blk_frozen BK239.out 8; have hcz51_0 : w48.cell? ⟨gb240, 0, none⟩ = some (.string a1_0) := (blk_cell BK240.out 0).trans rfl; have hcz51_1 : w48.cell? ⟨gb240, 1, none⟩ = some (.bool a1_1) := (blk_cell BK240.out 1).trans rfl; have hcz51_2 : w48.cell? ⟨gb240, 2, none⟩ = some (.slice A1_2 l1_2.length c1_2) := (blk_cell BK240.out 2).trans rfl; have hcz51_3 : w48.cell? ⟨gb240, 3, none⟩ = some (.int .i64 a1_3) := (blk_cell BK240.out 3).trans rfl; have hcz51_4 : w48.cell? ⟨gb240, 4, none⟩ = some (.int .i64 a1_4) := (blk_cell BK240.out 4).trans rfl; have hcz51_5 : w48.cell? ⟨gb240, 5, none⟩ = some (.int .i64 a1_5) := (blk_cell BK240.out 5).trans rfl; have hcz51_6 : w48.cell? ⟨gb240, 6, none⟩ = some (.string a1_6) := (blk_cell BK240.out 6).trans rfl; have hcz51_7 : w48.cell? ⟨gb240, 7, none⟩ = some (.int .i64 a1_7) := (blk_cell BK240.out 7).trans rfl; have hcz51_8 : w48.cell? ⟨gb240, 8, none⟩ = some (.int .i64 a1_8) := (blk_cell BK240.out 8).trans rfl; have hfz51_0 := blk_frozen BK240.out 0; have hfz51_1 := blk_frozen BK240.out 1; have hfz51_2 := blk_frozen BK240.out 2; have hfz51_3 := blk_frozen BK240.out 3; have hfz51_4 := blk_frozen BK240.out 4; have hfz51_5 := blk_frozen BK240.out 5; have hfz51_6 := blk_frozen BK240.out 6; have hfz51_7 := blk_frozen BK240.out 7; have hfz51_8 := blk_frozen BK240.out 8))
  go_ret
  exact ⟨by first | rfl | (simp [errW_none, errW_some] <;> rfl) | (simp [*, errW_none, errW_some] <;> rfl), by repeat (first | (with_reducible first | exact HB.out | apply qbA | apply qbB | apply qbC | refine below_set ?_ GE239.out | refine below_set ?_ GE240.out) | exact HB.out)⟩
 rw [if_pos c4] at H
 have c4b0 : (a0_1 == a1_1) = true := c4
 (try (have c4b1 : decide (a0_1 = a1_1) = true := by simpa using c4))
 (try (have c4b2 : (a0_1 == a1_1) = true := by simpa using c4))
 clear c4
 replace H := Option.bind_eq_some_iff.mp H
 obtain ⟨t241, A50, H⟩ := H
 replace H : (if t241 = true then (if a0_3 = a1_3 then (if a0_4 = a1_4 then (if a0_5 = a1_5 then (if a0_6.toList = a1_6.toList then (if a0_7 = a1_7 then (some (a0_8 == a1_8)) else (some false)) else (some false)) else (some false)) else (some false)) else (some false)) else (some false)) = some r := H
 have A5 := qas A50
 clear A50
 by_cases c6 : t241 = true
 rotate_left
 ·replace c6 := Bool.eq_false_iff.mpr c6
  subst c6
  have H1 : (some false) = some r := by rw [if_neg (show ¬ (false = true) by decide)] at H; exact H
  clear H
  have H := H1
  clear H1
  obtain rfl := Option.some.inj H
  go_enter Tryd.func88, Tryd.ntmps88
  go_wp2_with (first | ((with_reducible refine gate_dst (N := 2) rfl ?_); refine box_event ?hg (N := 2) ?hd (cs := #[.string a0_0, .bool a0_1, .slice A0_2 l0_2.length c0_2, .int .i64 a0_3, .int .i64 a0_4, .int .i64 a0_5, .string a0_6, .int .i64 a0_7, .int .i64 a0_8]) (t := 39) ?hr ?_; (case hd => rfl); (case hg => rfl); (case hr => first | (go_simp; done) | (go_simp; rfl)); intro gb239 hg w42 hbox hb; have n0_ := qas (below_step (by repeat (first | (with_reducible first | exact HB.out | apply qbA | apply qbB | apply qbC) | exact HB.out)) hb); have n1_ := qas (hbox); have n2_ := qas ((by rw [hg]; exact (below_size (by repeat (first | (with_reducible first | exact HB.out | apply qbA | apply qbB | apply qbC) | exact HB.out))) : w.heap.size ≤ gb239)); have n3_ := qas ((by rw [hg]; exact (below_size (by repeat (first | (with_reducible first | exact HB.out | apply qbA | apply qbB | apply qbC) | exact HB.out))) : w.heap.size ≤ gb239)); clear HB; have HB := n0_; have BK239 := n1_; have GW239 := n2_; have GE239 := n3_; clear n0_ n1_ n2_ n3_; clear hb hbox hg) | ((with_reducible refine gate_dst (N := 3) rfl ?_); refine box_event ?hg (N := 3) ?hd (cs := #[.string a1_0, .bool a1_1, .slice A1_2 l1_2.length c1_2, .int .i64 a1_3, .int .i64 a1_4, .int .i64 a1_5, .string a1_6, .int .i64 a1_7, .int .i64 a1_8]) (t := 39) ?hr ?_; (case hd => rfl); (case hg => rfl); (case hr => first | (go_simp; done) | (go_simp; rfl)); intro gb240 hg w43 hbox hb; have n0_ := qas (blk_below (g := gb239) (o := .cells #[.string a0_0, .bool a0_1, .slice A0_2 l0_2.length c0_2, .int .i64 a0_3, .int .i64 a0_4, .int .i64 a0_5, .string a0_6, .int .i64 a0_7, .int .i64 a0_8] 39 (0, 0)) (by (with_reducible repeat (first | refine qkA ?_ _ | refine qkB ?_ | refine qkC ?_ _)); exact BK239.out) hb); have n1_ := qas (below_step (by repeat (first | (with_reducible first | exact HB.out | apply qbA | apply qbB | apply qbC | refine below_set ?_ GE239.out) | exact HB.out)) hb); have n2_ := qas (hbox); have n3_ := qas ((by rw [hg]; exact (below_size (by repeat (first | (with_reducible first | exact HB.out | apply qbA | apply qbB | apply qbC | refine below_set ?_ GE239.out) | exact HB.out))) : w.heap.size ≤ gb240)); have n4_ := qas ((by rw [hg]; exact (below_size (by repeat (first | (with_reducible first | exact HB.out | apply qbA | apply qbB | apply qbC | refine below_set ?_ GE239.out) | exact HB.out))) : w.heap.size ≤ gb240)); have n5_ := qas ((by rw [hg]; exact Nat.ne_of_lt (blk_lt (g := gb239) (o := .cells #[.string a0_0, .bool a0_1, .slice A0_2 l0_2.length c0_2, .int .i64 a0_3, .int .i64 a0_4, .int .i64 a0_5, .string a0_6, .int .i64 a0_7, .int .i64 a0_8] 39 (0, 0)) (by (with_reducible repeat (first | refine qkA ?_ _ | refine qkB ?_ | refine qkC ?_ _)); exact BK239.out)) : gb239 ≠ gb240)); have n6_ := qas ((by rw [hg]; exact Nat.ne_of_gt (blk_lt (g := gb239) (o := .cells #[.string a0_0, .bool a0_1, .slice A0_2 l0_2.length c0_2, .int .i64 a0_3, .int .i64 a0_4, .int .i64 a0_5, .string a0_6, .int .i64 a0_7, .int .i64 a0_8] 39 (0, 0)) (by (with_reducible repeat (first | refine qkA ?_ _ | refine qkB ?_ | refine qkC ?_ _)); exact BK239.out)) : gb240 ≠ gb239)); clear BK239; clear HB; have BK239 := n0_; have HB := n1_; have BK240 := n2_; have GW240 := n3_; have GE240 := n4_; have NB239_240 := n5_; have NB240_239 := n6_; clear n0_ n1_ n2_ n3_ n4_ n5_ n6_; clear hb hbox hg; have hnb44 := NB239_240.out; have hnc44 := NB240_239.out; have hcz45_0 : w43.cell? ⟨gb239, 0, none⟩ = some (.string a0_0) := (blk_cell BK239.out 0).trans rfl; have hcz45_1 : w43.cell? ⟨gb239, 1, none⟩ = some (.bool a0_1) := (blk_cell BK239.out 1).trans rfl; have hcz45_2 : w43.cell? ⟨gb239, 2, none⟩ = some (.slice A0_2 l0_2.length c0_2) := (blk_cell BK239.out 2).trans rfl; have hcz45_3 : w43.cell? ⟨gb239, 3, none⟩ = some (.int .i64 a0_3) := (blk_cell BK239.out 3).trans rfl; have hcz45_4 : w43.cell? ⟨gb239, 4, none⟩ = some (.int .i64 a0_4) := (blk_cell BK239.out 4).trans rfl; have hcz45_5 : w43.cell? ⟨gb239, 5, none⟩ = some (.int .i64 a0_5) := (blk_cell BK239.out 5).trans rfl; have hcz45_6 : w43.cell? ⟨gb239, 6, none⟩ = some (.string a0_6) := (blk_cell BK239.out 6).trans rfl; have hcz45_7 : w43.cell? ⟨gb239, 7, none⟩ = some (.int .i64 a0_7) := (blk_cell BK239.out 7).trans rfl; have hcz45_8 : w43.cell? ⟨gb239, 8, none⟩ = some (.int .i64 a0_8) := (blk_cell BK239.out 8).trans rfl; have hfz45_0 := blk_frozen BK239.out 0; have hfz45_1 := blk_frozen BK239.out 1; have hfz45_2 := blk_frozen BK239.out 2; have hfz45_3 := blk_frozen BK239.out 3; have hfz45_4 := blk_frozen BK239.out 4; have hfz45_5 := blk_frozen BK239.out 5; have hfz45_6 := blk_frozen BK239.out 6; have hfz45_7 := blk_frozen BK239.out 7; have hfz45_8 := blk_frozen BK239.out 8; have hcz46_0 : w43.cell? ⟨gb240, 0, none⟩ = some (.string a1_0) := (blk_cell BK240.out 0).trans rfl; have hcz46_1 : w43.cell? ⟨gb240, 1, none⟩ = some (.bool a1_1) := (blk_cell BK240.out 1).trans rfl; have hcz46_2 : w43.cell? ⟨gb240, 2, none⟩ = some (.slice A1_2 l1_2.length c1_2) := (blk_cell BK240.out 2).trans rfl; have hcz46_3 : w43.cell? ⟨gb240, 3, none⟩ = some (.int .i64 a1_3) := (blk_cell BK240.out 3).trans rfl; have hcz46_4 : w43.cell? ⟨gb240, 4, none⟩ = some (.int .i64 a1_4) := (blk_cell BK240.out 4).trans rfl; have hcz46_5 : w43.cell? ⟨gb240, 5, none⟩ = some (.int .i64 a1_5) := (blk_cell BK240.out 5).trans rfl; have hcz46_6 : w43.cell? ⟨gb240, 6, none⟩ = some (.string a1_6) := (blk_cell BK240.out 6).trans rfl; have hcz46_7 : w43.cell? ⟨gb240, 7, none⟩ = some (.int .i64 a1_7) := (blk_cell BK240.out 7).trans rfl; have hcz46_8 : w43.cell? ⟨gb240, 8, none⟩ = some (.int .i64 a1_8) := (blk_cell BK240.out 8).trans rfl; have hfz46_0 := blk_frozen BK240.out 0; have hfz46_1 := blk_frozen BK240.out 1; have hfz46_2 := blk_frozen BK240.out 2; have hfz46_3 := blk_frozen BK240.out 3; have hfz46_4 := blk_frozen BK240.out 4; have hfz46_5 := blk_frozen BK240.out 5; have hfz46_6 := blk_frozen BK240.out 6; have hfz46_7 := blk_frozen BK240.out 7; have hfz46_8 := blk_frozen BK240.out 8) | (go_at_call 111; (with_reducible refine (pl_SameInts.calls k _ _ l0_2 _ _ l1_2 false _ ?side1 ?side2 ?side3 ?side4 A5.out).mono ?_); (case side1 => repeat (first | exact (Kd.C_below HR0_2.out HB.out) | (with_reducible refine Kd.C_alloc ?_ _) | (with_reducible refine Kd.C_drewN ?_ _) | (with_reducible refine Kd.C_drew ?_))); (case side2 => exact HC0_2.out); (case side3 => repeat (first | exact (Kd.C_below HR1_2.out HB.out) | (with_reducible refine Kd.C_alloc ?_ _) | (with_reducible refine Kd.C_drewN ?_ _) | (with_reducible refine Kd.C_drew ?_))); (case side4 => exact HC1_2.out); rintro e w' ⟨rfl, ⟨nd, rfl⟩⟩))
  go_ret
  exact ⟨by first | rfl | (simp [errW_none, errW_some] <;> rfl) | (simp [*, errW_none, errW_some] <;> rfl), by repeat (first | (with_reducible first | exact HB.out | apply qbA | apply qbB | apply qbC | refine below_set ?_ GE239.out | refine below_set ?_ GE240.out) | exact HB.out)⟩
 subst c6
 have H1 : (if a0_3 = a1_3 then (if a0_4 = a1_4 then (if a0_5 = a1_5 then (if a0_6.toList = a1_6.toList then (if a0_7 = a1_7 then (some (a0_8 == a1_8)) else (some false)) else (some false)) else (some false)) else (some false)) else (some false)) = some r := by rw [if_pos rfl] at H; exact H
 clear H
 have H := H1
 clear H1
 by_cases c7 : a0_3 = a1_3
 rotate_left
 ·rw [if_neg c7] at H
  have c7b0 : (a0_3 == a1_3) = false := beq_eq_false_iff_ne.mpr c7
  have c7b1 : (a0_3 != a1_3) = true := bne_iff_ne.mpr c7
  obtain rfl := Option.some.inj H
  go_enter Tryd.func88, Tryd.ntmps88
  go_wp2_with (first | ((with_reducible refine gate_dst (N := 2) rfl ?_); refine box_event ?hg (N := 2) ?hd (cs := #[.string a0_0, .bool a0_1, .slice A0_2 l0_2.length c0_2, .int .i64 a0_3, .int .i64 a0_4, .int .i64 a0_5, .string a0_6, .int .i64 a0_7, .int .i64 a0_8]) (t := 39) ?hr ?_; (case hd => rfl); (case hg => rfl); (case hr => first | (go_simp; done) | (go_simp; rfl)); intro gb239 hg w37 hbox hb; have n0_ := qas (below_step (by repeat (first | (with_reducible first | exact HB.out | apply qbA | apply qbB | apply qbC) | exact HB.out)) hb); have n1_ := qas (hbox); have n2_ := qas ((by rw [hg]; exact (below_size (by repeat (first | (with_reducible first | exact HB.out | apply qbA | apply qbB | apply qbC) | exact HB.out))) : w.heap.size ≤ gb239)); have n3_ := qas ((by rw [hg]; exact (below_size (by repeat (first | (with_reducible first | exact HB.out | apply qbA | apply qbB | apply qbC) | exact HB.out))) : w.heap.size ≤ gb239)); clear HB; have HB := n0_; have BK239 := n1_; have GW239 := n2_; have GE239 := n3_; clear n0_ n1_ n2_ n3_; clear hb hbox hg) | ((with_reducible refine gate_dst (N := 3) rfl ?_); refine box_event ?hg (N := 3) ?hd (cs := #[.string a1_0, .bool a1_1, .slice A1_2 l1_2.length c1_2, .int .i64 a1_3, .int .i64 a1_4, .int .i64 a1_5, .string a1_6, .int .i64 a1_7, .int .i64 a1_8]) (t := 39) ?hr ?_; (case hd => rfl); (case hg => rfl); (case hr => first | (go_simp; done) | (go_simp; rfl)); intro gb240 hg w38 hbox hb; have n0_ := qas (blk_below (g := gb239) (o := .cells #[.string a0_0, .bool a0_1, .slice A0_2 l0_2.length c0_2, .int .i64 a0_3, .int .i64 a0_4, .int .i64 a0_5, .string a0_6, .int .i64 a0_7, .int .i64 a0_8] 39 (0, 0)) (by (with_reducible repeat (first | refine qkA ?_ _ | refine qkB ?_ | refine qkC ?_ _)); exact BK239.out) hb); have n1_ := qas (below_step (by repeat (first | (with_reducible first | exact HB.out | apply qbA | apply qbB | apply qbC | refine below_set ?_ GE239.out) | exact HB.out)) hb); have n2_ := qas (hbox); have n3_ := qas ((by rw [hg]; exact (below_size (by repeat (first | (with_reducible first | exact HB.out | apply qbA | apply qbB | apply qbC | refine below_set ?_ GE239.out) | exact HB.out))) : w.heap.size ≤ gb240)); have n4_ := qas ((by rw [hg]; exact (below_size (by repeat (first | (with_reducible first | exact HB.out | apply qbA | apply qbB | apply qbC | refine below_set ?_ GE239.out) | exact HB.out))) : w.heap.size ≤ gb240)); have n5_ := qas ((by rw [hg]; exact Nat.ne_of_lt (blk_lt (g := gb239) (o := .cells #[.string a0_0, .bool a0_1, .slice A0_2 l0_2.length c0_2, .int .i64 a0_3, .int .i64 a0_4, .int .i64 a0_5, .string a0_6, .int .i64 a0_7, .int .i64 a0_8] 39 (0, 0)) (by (with_reducible repeat (first | refine qkA ?_ _ | refine qkB ?_ | refine qkC ?_ _)); exact BK239.out)) : gb239 ≠ gb240)); have n6_ := qas ((by rw [hg]; exact Nat.ne_of_gt (blk_lt (g := gb239) (o := .cells #[.string a0_0, .bool a0_1, .slice A0_2 l0_2.length c0_2, .int .i64 a0_3, .int .i64 a0_4, .int .i64 a0_5, .string a0_6, .int .i64 a0_7, .int .i64 a0_8] 39 (0, 0)) (by (with_reducible repeat (first | refine qkA ?_ _ | refine qkB ?_ | refine qkC ?_ _)); exact BK239.out)) : gb240 ≠ gb239)); clear BK239; clear HB; have BK239 := n0_; have HB := n1_; have BK240 := n2_; have GW240 := n3_; have GE240 := n4_; have NB239_240 := n5_; have NB240_239 := n6_; clear n0_ n1_ n2_ n3_ n4_ n5_ n6_; clear hb hbox hg; have hnb39 := NB239_240.out; have hnc39 := NB240_239.out; have hcz40_0 : w38.cell? ⟨gb239, 0, none⟩ = some (.string a0_0) := (blk_cell BK239.out 0).trans rfl; have hcz40_1 : w38.cell? ⟨gb239, 1, none⟩ = some (.bool a0_1) := (blk_cell BK239.out 1).trans rfl; have hcz40_2 : w38.cell? ⟨gb239, 2, none⟩ = some (.slice A0_2 l0_2.length c0_2) := (blk_cell BK239.out 2).trans rfl; have hcz40_3 : w38.cell? ⟨gb239, 3, none⟩ = some (.int .i64 a0_3) := (blk_cell BK239.out 3).trans rfl; have hcz40_4 : w38.cell? ⟨gb239, 4, none⟩ = some (.int .i64 a0_4) := (blk_cell BK239.out 4).trans rfl; have hcz40_5 : w38.cell? ⟨gb239, 5, none⟩ = some (.int .i64 a0_5) := (blk_cell BK239.out 5).trans rfl; have hcz40_6 : w38.cell? ⟨gb239, 6, none⟩ = some (.string a0_6) := (blk_cell BK239.out 6).trans rfl; have hcz40_7 : w38.cell? ⟨gb239, 7, none⟩ = some (.int .i64 a0_7) := (blk_cell BK239.out 7).trans rfl; have hcz40_8 : w38.cell? ⟨gb239, 8, none⟩ = some (.int .i64 a0_8) := (blk_cell BK239.out 8).trans rfl; have hfz40_0 := blk_frozen BK239.out 0; have hfz40_1 := blk_frozen BK239.out 1; have hfz40_2 := blk_frozen BK239.out 2; have hfz40_3 := blk_frozen BK239.out 3; have hfz40_4 := blk_frozen BK239.out 4; have hfz40_5 := blk_frozen BK239.out 5; have hfz40_6 := blk_frozen BK239.out 6; have hfz40_7 := blk_frozen BK239.out 7; have hfz40_8 := blk_frozen BK239.out 8; have hcz41_0 : w38.cell? ⟨gb240, 0, none⟩ = some (.string a1_0) := (blk_cell BK240.out 0).trans rfl; have hcz41_1 : w38.cell? ⟨gb240, 1, none⟩ = some (.bool a1_1) := (blk_cell BK240.out 1).trans rfl; have hcz41_2 : w38.cell? ⟨gb240, 2, none⟩ = some (.slice A1_2 l1_2.length c1_2) := (blk_cell BK240.out 2).trans rfl; have hcz41_3 : w38.cell? ⟨gb240, 3, none⟩ = some (.int .i64 a1_3) := (blk_cell BK240.out 3).trans rfl; have hcz41_4 : w38.cell? ⟨gb240, 4, none⟩ = some (.int .i64 a1_4) := (blk_cell BK240.out 4).trans rfl; have hcz41_5 : w38.cell? ⟨gb240, 5, none⟩ = some (.int .i64 a1_5) := (blk_cell BK240.out 5).trans rfl; have hcz41_6 : w38.cell? ⟨gb240, 6, none⟩ = some (.string a1_6) := (blk_cell BK240.out 6).trans rfl; have hcz41_7 : w38.cell? ⟨gb240, 7, none⟩ = some (.int .i64 a1_7) := (blk_cell BK240.out 7).trans rfl; have hcz41_8 : w38.cell? ⟨gb240, 8, none⟩ = some (.int .i64 a1_8) := (blk_cell BK240.out 8).trans rfl; have hfz41_0 := blk_frozen BK240.out 0; have hfz41_1 := blk_frozen BK240.out 1; have hfz41_2 := blk_frozen BK240.out 2; have hfz41_3 := blk_frozen BK240.out 3; have hfz41_4 := blk_frozen BK240.out 4; have hfz41_5 := blk_frozen BK240.out 5; have hfz41_6 := blk_frozen BK240.out 6; have hfz41_7 := blk_frozen BK240.out 7; have hfz41_8 := blk_frozen BK240.out 8) | (go_at_call 111; (with_reducible refine (pl_SameInts.calls k _ _ l0_2 _ _ l1_2 true _ ?side1 ?side2 ?side3 ?side4 A5.out).mono ?_); (case side1 => repeat (first | exact (Kd.C_below HR0_2.out HB.out) | (with_reducible refine Kd.C_alloc ?_ _) | (with_reducible refine Kd.C_drewN ?_ _) | (with_reducible refine Kd.C_drew ?_))); (case side2 => exact HC0_2.out); (case side3 => repeat (first | exact (Kd.C_below HR1_2.out HB.out) | (with_reducible refine Kd.C_alloc ?_ _) | (with_reducible refine Kd.C_drewN ?_ _) | (with_reducible refine Kd.C_drew ?_))); (case side4 => exact HC1_2.out); rintro e w' ⟨rfl, ⟨nd, rfl⟩⟩))
  go_ret
  exact ⟨by first | rfl | (simp [errW_none, errW_some] <;> rfl) | (simp [*, errW_none, errW_some] <;> rfl), by repeat (first | (with_reducible first | exact HB.out | apply qbA | apply qbB | apply qbC | refine below_set ?_ GE239.out | refine below_set ?_ GE240.out) | exact HB.out)⟩
 rw [if_pos c7] at H
 have c7b0 : (a0_3 == a1_3) = true := beq_iff_eq.mpr c7
 have c7b1 : (a0_3 != a1_3) = false := bne_eq_false_iff_eq.mpr c7
 clear c7
 by_cases c8 : a0_4 = a1_4
 rotate_left
 ·rw [if_neg c8] at H
  have c8b0 : (a0_4 == a1_4) = false := beq_eq_false_iff_ne.mpr c8
  have c8b1 : (a0_4 != a1_4) = true := bne_iff_ne.mpr c8
  obtain rfl := Option.some.inj H
  go_enter Tryd.func88, Tryd.ntmps88
  go_wp2_with (first | ((with_reducible refine gate_dst (N := 2) rfl ?_); refine box_event ?hg (N := 2) ?hd (cs := #[.string a0_0, .bool a0_1, .slice A0_2 l0_2.length c0_2, .int .i64 a0_3, .int .i64 a0_4, .int .i64 a0_5, .string a0_6, .int .i64 a0_7, .int .i64 a0_8]) (t := 39) ?hr ?_; (case hd => rfl); (case hg => rfl); (case hr => first | (go_simp; done) | (go_simp; rfl)); intro gb239 hg w32 hbox hb; have n0_ := qas (below_step (by repeat (first | (with_reducible first | exact HB.out | apply qbA | apply qbB | apply qbC) | exact HB.out)) hb); have n1_ := qas (hbox); have n2_ := qas ((by rw [hg]; exact (below_size (by repeat (first | (with_reducible first | exact HB.out | apply qbA | apply qbB | apply qbC) | exact HB.out))) : w.heap.size ≤ gb239)); have n3_ := qas ((by rw [hg]; exact (below_size (by repeat (first | (with_reducible first | exact HB.out | apply qbA | apply qbB | apply qbC) | exact HB.out))) : w.heap.size ≤ gb239)); clear HB; have HB := n0_; have BK239 := n1_; have GW239 := n2_; have GE239 := n3_; clear n0_ n1_ n2_ n3_; clear hb hbox hg) | ((with_reducible refine gate_dst (N := 3) rfl ?_); refine box_event ?hg (N := 3) ?hd (cs := #[.string a1_0, .bool a1_1, .slice A1_2 l1_2.length c1_2, .int .i64 a1_3, .int .i64 a1_4, .int .i64 a1_5, .string a1_6, .int .i64 a1_7, .int .i64 a1_8]) (t := 39) ?hr ?_; (case hd => rfl); (case hg => rfl); (case hr => first | (go_simp; done) | (go_simp; rfl)); intro gb240 hg w33 hbox hb; have n0_ := qas (blk_below (g := gb239) (o := .cells #[.string a0_0, .bool a0_1, .slice A0_2 l0_2.length c0_2, .int .i64 a0_3, .int .i64 a0_4, .int .i64 a0_5, .string a0_6, .int .i64 a0_7, .int .i64 a0_8] 39 (0, 0)) (by (with_reducible repeat (first | refine qkA ?_ _ | refine qkB ?_ | refine qkC ?_ _)); exact BK239.out) hb); have n1_ := qas (below_step (by repeat (first | (with_reducible first | exact HB.out | apply qbA | apply qbB | apply qbC | refine below_set ?_ GE239.out) | exact HB.out)) hb); have n2_ := qas (hbox); have n3_ := qas ((by rw [hg]; exact (below_size (by repeat (first | (with_reducible first | exact HB.out | apply qbA | apply qbB | apply qbC | refine below_set ?_ GE239.out) | exact HB.out))) : w.heap.size ≤ gb240)); have n4_ := qas ((by rw [hg]; exact (below_size (by repeat (first | (with_reducible first | exact HB.out | apply qbA | apply qbB | apply qbC | refine below_set ?_ GE239.out) | exact HB.out))) : w.heap.size ≤ gb240)); have n5_ := qas ((by rw [hg]; exact Nat.ne_of_lt (blk_lt (g := gb239) (o := .cells #[.string a0_0, .bool a0_1, .slice A0_2 l0_2.length c0_2, .int .i64 a0_3, .int .i64 a0_4, .int .i64 a0_5, .string a0_6, .int .i64 a0_7, .int .i64 a0_8] 39 (0, 0)) (by (with_reducible repeat (first | refine qkA ?_ _ | refine qkB ?_ | refine qkC ?_ _)); exact BK239.out)) : gb239 ≠ gb240)); have n6_ := qas ((by rw [hg]; exact Nat.ne_of_gt (blk_lt (g := gb239) (o := .cells #[.string a0_0, .bool a0_1, .slice A0_2 l0_2.length c0_2, .int .i64 a0_3, .int .i64 a0_4, .int .i64 a0_5, .string a0_6, .int .i64 a0_7, .int .i64 a0_8] 39 (0, 0)) (by (with_reducible repeat (first | refine qkA ?_ _ | refine qkB ?_ | refine qkC ?_ _)); exact BK239.out)) : gb240 ≠ gb239)); clear BK239; clear HB; have BK239 := n0_; have HB := n1_; have BK240 := n2_; have GW240 := n3_; have GE240 := n4_; have NB239_240 := n5_; have NB240_239 := n6_; clear n0_ n1_ n2_ n3_ n4_ n5_ n6_; clear hb hbox hg; have hnb34 := NB239_240.out; have hnc34 := NB240_239.out; have hcz35_0 : w33.cell? ⟨gb239, 0, none⟩ = some (.string a0_0) := (blk_cell BK239.out 0).trans rfl; have hcz35_1 : w33.cell? ⟨gb239, 1, none⟩ = some (.bool a0_1) := (blk_cell BK239.out 1).trans rfl; have hcz35_2 : w33.cell? ⟨gb239, 2, none⟩ = some (.slice A0_2 l0_2.length c0_2) := (blk_cell BK239.out 2).trans rfl; have hcz35_3 : w33.cell? ⟨gb239, 3, none⟩ = some (.int .i64 a0_3) := (blk_cell BK239.out 3).trans rfl; have hcz35_4 : w33.cell? ⟨gb239, 4, none⟩ = some (.int .i64 a0_4) := (blk_cell BK239.out 4).trans rfl; have hcz35_5 : w33.cell? ⟨gb239, 5, none⟩ = some (.int .i64 a0_5) := (blk_cell BK239.out 5).trans rfl; have hcz35_6 : w33.cell? ⟨gb239, 6, none⟩ = some (.string a0_6) := (blk_cell BK239.out 6).trans rfl; have hcz35_7 : w33.cell? ⟨gb239, 7, none⟩ = some (.int .i64 a0_7) := (blk_cell BK239.out 7).trans rfl; have hcz35_8 : w33.cell? ⟨gb239, 8, none⟩ = some (.int .i64 a0_8) := (blk_cell BK239.out 8).trans rfl; have hfz35_0 := blk_frozen BK239.out 0; have hfz35_1 := blk_frozen BK239.out 1; have hfz35_2 := blk_frozen BK239.out 2; have hfz35_3 := blk_frozen BK239.out 3; have hfz35_4 := blk_frozen BK239.out 4; have hfz35_5 := blk_frozen BK239.out 5; have hfz35_6 := blk_frozen BK239.out 6; have hfz35_7 := blk_frozen BK239.out 7; have hfz35_8 := blk_frozen BK239.out 8; have hcz36_0 : w33.cell? ⟨gb240, 0, none⟩ = some (.string a1_0) := (blk_cell BK240.out 0).trans rfl; have hcz36_1 : w33.cell? ⟨gb240, 1, none⟩ = some (.bool a1_1) := (blk_cell BK240.out 1).trans rfl; have hcz36_2 : w33.cell? ⟨gb240, 2, none⟩ = some (.slice A1_2 l1_2.length c1_2) := (blk_cell BK240.out 2).trans rfl; have hcz36_3 : w33.cell? ⟨gb240, 3, none⟩ = some (.int .i64 a1_3) := (blk_cell BK240.out 3).trans rfl; have hcz36_4 : w33.cell? ⟨gb240, 4, none⟩ = some (.int .i64 a1_4) := (blk_cell BK240.out 4).trans rfl; have hcz36_5 : w33.cell? ⟨gb240, 5, none⟩ = some (.int .i64 a1_5) := (blk_cell BK240.out 5).trans rfl; have hcz36_6 : w33.cell? ⟨gb240, 6, none⟩ = some (.string a1_6) := (blk_cell BK240.out 6).trans rfl; have hcz36_7 : w33.cell? ⟨gb240, 7, none⟩ = some (.int .i64 a1_7) := (blk_cell BK240.out 7).trans rfl; have hcz36_8 : w33.cell? ⟨gb240, 8, none⟩ = some (.int .i64 a1_8) := (blk_cell BK240.out 8).trans rfl; have hfz36_0 := blk_frozen BK240.out 0; have hfz36_1 := blk_frozen BK240.out 1; have hfz36_2 := blk_frozen BK240.out 2; have hfz36_3 := blk_frozen BK240.out 3; have hfz36_4 := blk_frozen BK240.out 4; have hfz36_5 := blk_frozen BK240.out 5; have hfz36_6 := blk_frozen BK240.out 6; have hfz36_7 := blk_frozen BK240.out 7; have hfz36_8 := blk_frozen BK240.out 8) | (go_at_call 111; (with_reducible refine (pl_SameInts.calls k _ _ l0_2 _ _ l1_2 true _ ?side1 ?side2 ?side3 ?side4 A5.out).mono ?_); (case side1 => repeat (first | exact (Kd.C_below HR0_2.out HB.out) | (with_reducible refine Kd.C_alloc ?_ _) | (with_reducible refine Kd.C_drewN ?_ _) | (with_reducible refine Kd.C_drew ?_))); (case side2 => exact HC0_2.out); (case side3 => repeat (first | exact (Kd.C_below HR1_2.out HB.out) | (with_reducible refine Kd.C_alloc ?_ _) | (with_reducible refine Kd.C_drewN ?_ _) | (with_reducible refine Kd.C_drew ?_))); (case side4 => exact HC1_2.out); rintro e w' ⟨rfl, ⟨nd, rfl⟩⟩))
  go_ret
  exact ⟨by first | rfl | (simp [errW_none, errW_some] <;> rfl) | (simp [*, errW_none, errW_some] <;> rfl), by repeat (first | (with_reducible first | exact HB.out | apply qbA | apply qbB | apply qbC | refine below_set ?_ GE239.out | refine below_set ?_ GE240.out) | exact HB.out)⟩
 rw [if_pos c8] at H
 have c8b0 : (a0_4 == a1_4) = true := beq_iff_eq.mpr c8
 have c8b1 : (a0_4 != a1_4) = false := bne_eq_false_iff_eq.mpr c8
 clear c8
 by_cases c9 : a0_5 = a1_5
 rotate_left
 ·rw [if_neg c9] at H
  have c9b0 : (a0_5 == a1_5) = false := beq_eq_false_iff_ne.mpr c9
  have c9b1 : (a0_5 != a1_5) = true := bne_iff_ne.mpr c9
  obtain rfl := Option.some.inj H
  go_enter Tryd.func88, Tryd.ntmps88
  go_wp2_with (first | ((with_reducible refine gate_dst (N := 2) rfl ?_); refine box_event ?hg (N := 2) ?hd (cs := #[.string a0_0, .bool a0_1, .slice A0_2 l0_2.length c0_2, .int .i64 a0_3, .int .i64 a0_4, .int .i64 a0_5, .string a0_6, .int .i64 a0_7, .int .i64 a0_8]) (t := 39) ?hr ?_; (case hd => rfl); (case hg => rfl); (case hr => first | (go_simp; done) | (go_simp; rfl)); intro gb239 hg w27 hbox hb; have n0_ := qas (below_step (by repeat (first | (with_reducible first | exact HB.out | apply qbA | apply qbB | apply qbC) | exact HB.out)) hb); have n1_ := qas (hbox); have n2_ := qas ((by rw [hg]; exact (below_size (by repeat (first | (with_reducible first | exact HB.out | apply qbA | apply qbB | apply qbC) | exact HB.out))) : w.heap.size ≤ gb239)); have n3_ := qas ((by rw [hg]; exact (below_size (by repeat (first | (with_reducible first | exact HB.out | apply qbA | apply qbB | apply qbC) | exact HB.out))) : w.heap.size ≤ gb239)); clear HB; have HB := n0_; have BK239 := n1_; have GW239 := n2_; have GE239 := n3_; clear n0_ n1_ n2_ n3_; clear hb hbox hg) | ((with_reducible refine gate_dst (N := 3) rfl ?_); refine box_event ?hg (N := 3) ?hd (cs := #[.string a1_0, .bool a1_1, .slice A1_2 l1_2.length c1_2, .int .i64 a1_3, .int .i64 a1_4, .int .i64 a1_5, .string a1_6, .int .i64 a1_7, .int .i64 a1_8]) (t := 39) ?hr ?_; (case hd => rfl); (case hg => rfl); (case hr => first | (go_simp; done) | (go_simp; rfl)); intro gb240 hg w28 hbox hb; have n0_ := qas (blk_below (g := gb239) (o := .cells #[.string a0_0, .bool a0_1, .slice A0_2 l0_2.length c0_2, .int .i64 a0_3, .int .i64 a0_4, .int .i64 a0_5, .string a0_6, .int .i64 a0_7, .int .i64 a0_8] 39 (0, 0)) (by (with_reducible repeat (first | refine qkA ?_ _ | refine qkB ?_ | refine qkC ?_ _)); exact BK239.out) hb); have n1_ := qas (below_step (by repeat (first | (with_reducible first | exact HB.out | apply qbA | apply qbB | apply qbC | refine below_set ?_ GE239.out) | exact HB.out)) hb); have n2_ := qas (hbox); have n3_ := qas ((by rw [hg]; exact (below_size (by repeat (first | (with_reducible first | exact HB.out | apply qbA | apply qbB | apply qbC | refine below_set ?_ GE239.out) | exact HB.out))) : w.heap.size ≤ gb240)); have n4_ := qas ((by rw [hg]; exact (below_size (by repeat (first | (with_reducible first | exact HB.out | apply qbA | apply qbB | apply qbC | refine below_set ?_ GE239.out) | exact HB.out))) : w.heap.size ≤ gb240)); have n5_ := qas ((by rw [hg]; exact Nat.ne_of_lt (blk_lt (g := gb239) (o := .cells #[.string a0_0, .bool a0_1, .slice A0_2 l0_2.length c0_2, .int .i64 a0_3, .int .i64 a0_4, .int .i64 a0_5, .string a0_6, .int .i64 a0_7, .int .i64 a0_8] 39 (0, 0)) (by (with_reducible repeat (first | refine qkA ?_ _ | refine qkB ?_ | refine qkC ?_ _)); exact BK239.out)) : gb239 ≠ gb240)); have n6_ := qas ((by rw [hg]; exact Nat.ne_of_gt (blk_lt (g := gb239) (o := .cells #[.string a0_0, .bool a0_1, .slice A0_2 l0_2.length c0_2, .int .i64 a0_3, .int .i64 a0_4, .int .i64 a0_5, .string a0_6, .int .i64 a0_7, .int .i64 a0_8] 39 (0, 0)) (by (with_reducible repeat (first | refine qkA ?_ _ | refine qkB ?_ | refine qkC ?_ _)); exact BK239.out)) : gb240 ≠ gb239)); clear BK239; clear HB; have BK239 := n0_; have HB := n1_; have BK240 := n2_; have GW240 := n3_; have GE240 := n4_; have NB239_240 := n5_; have NB240_239 := n6_; clear n0_ n1_ n2_ n3_ n4_ n5_ n6_; clear hb hbox hg; have hnb29 := NB239_240.out; have hnc29 := NB240_239.out; have hcz30_0 : w28.cell? ⟨gb239, 0, none⟩ = some (.string a0_0) := (blk_cell BK239.out 0).trans rfl; have hcz30_1 : w28.cell? ⟨gb239, 1, none⟩ = some (.bool a0_1) := (blk_cell BK239.out 1).trans rfl; have hcz30_2 : w28.cell? ⟨gb239, 2, none⟩ = some (.slice A0_2 l0_2.length c0_2) := (blk_cell BK239.out 2).trans rfl; have hcz30_3 : w28.cell? ⟨gb239, 3, none⟩ = some (.int .i64 a0_3) := (blk_cell BK239.out 3).trans rfl; have hcz30_4 : w28.cell? ⟨gb239, 4, none⟩ = some (.int .i64 a0_4) := (blk_cell BK239.out 4).trans rfl; have hcz30_5 : w28.cell? ⟨gb239, 5, none⟩ = some (.int .i64 a0_5) := (blk_cell BK239.out 5).trans rfl; have hcz30_6 : w28.cell? ⟨gb239, 6, none⟩ = some (.string a0_6) := (blk_cell BK239.out 6).trans rfl; have hcz30_7 : w28.cell? ⟨gb239, 7, none⟩ = some (.int .i64 a0_7) := (blk_cell BK239.out 7).trans rfl; have hcz30_8 : w28.cell? ⟨gb239, 8, none⟩ = some (.int .i64 a0_8) := (blk_cell BK239.out 8).trans rfl; have hfz30_0 := blk_frozen BK239.out 0; have hfz30_1 := blk_frozen BK239.out 1; have hfz30_2 := blk_frozen BK239.out 2; have hfz30_3 := blk_frozen BK239.out 3; have hfz30_4 := blk_frozen BK239.out 4; have hfz30_5 := blk_frozen BK239.out 5; have hfz30_6 := blk_frozen BK239.out 6; have hfz30_7 := blk_frozen BK239.out 7; have hfz30_8 := blk_frozen BK239.out 8; have hcz31_0 : w28.cell? ⟨gb240, 0, none⟩ = some (.string a1_0) := (blk_cell BK240.out 0).trans rfl; have hcz31_1 : w28.cell? ⟨gb240, 1, none⟩ = some (.bool a1_1) := (blk_cell BK240.out 1).trans rfl; have hcz31_2 : w28.cell? ⟨gb240, 2, none⟩ = some (.slice A1_2 l1_2.length c1_2) := (blk_cell BK240.out 2).trans rfl; have hcz31_3 : w28.cell? ⟨gb240, 3, none⟩ = some (.int .i64 a1_3) := (blk_cell BK240.out 3).trans rfl; have hcz31_4 : w28.cell? ⟨gb240, 4, none⟩ = some (.int .i64 a1_4) := (blk_cell BK240.out 4).trans rfl; have hcz31_5 : w28.cell? ⟨gb240, 5, none⟩ = some (.int .i64 a1_5) := (blk_cell BK240.out 5).trans rfl; have hcz31_6 : w28.cell? ⟨gb240, 6, none⟩ = some (.string a1_6) := (blk_cell BK240.out 6).trans rfl; have hcz31_7 : w28.cell? ⟨gb240, 7, none⟩ = some (.int .i64 a1_7) := (blk_cell BK240.out 7).trans rfl; have hcz31_8 : w28.cell? ⟨gb240, 8, none⟩ = some (.int .i64 a1_8) := (blk_cell BK240.out 8).trans rfl; have hfz31_0 := blk_frozen BK240.out 0; have hfz31_1 := blk_frozen BK240.out 1; have hfz31_2 := blk_frozen BK240.out 2; have hfz31_3 := blk_frozen BK240.out 3; have hfz31_4 := blk_frozen BK240.out 4; have hfz31_5 := blk_frozen BK240.out 5; have hfz31_6 := blk_frozen BK240.out 6; have hfz31_7 := blk_frozen BK240.out 7; have hfz31_8 := blk_frozen BK240.out 8) | (go_at_call 111; (with_reducible refine (pl_SameInts.calls k _ _ l0_2 _ _ l1_2 true _ ?side1 ?side2 ?side3 ?side4 A5.out).mono ?_); (case side1 => repeat (first | exact (Kd.C_below HR0_2.out HB.out) | (with_reducible refine Kd.C_alloc ?_ _) | (with_reducible refine Kd.C_drewN ?_ _) | (with_reducible refine Kd.C_drew ?_))); (case side2 => exact HC0_2.out); (case side3 => repeat (first | exact (Kd.C_below HR1_2.out HB.out) | (with_reducible refine Kd.C_alloc ?_ _) | (with_reducible refine Kd.C_drewN ?_ _) | (with_reducible refine Kd.C_drew ?_))); (case side4 => exact HC1_2.out); rintro e w' ⟨rfl, ⟨nd, rfl⟩⟩))
  go_ret
  exact ⟨by first | rfl | (simp [errW_none, errW_some] <;> rfl) | (simp [*, errW_none, errW_some] <;> rfl), by repeat (first | (with_reducible first | exact HB.out | apply qbA | apply qbB | apply qbC | refine below_set ?_ GE239.out | refine below_set ?_ GE240.out) | exact HB.out)⟩
 rw [if_pos c9] at H
 have c9b0 : (a0_5 == a1_5) = true := beq_iff_eq.mpr c9
 have c9b1 : (a0_5 != a1_5) = false := bne_eq_false_iff_eq.mpr c9
 clear c9
 by_cases c10 : a0_6.toList = a1_6.toList
 rotate_left
 ·rw [if_neg c10] at H
  have c10b0 : (a0_6.toList == a1_6.toList) = false := beq_eq_false_iff_ne.mpr c10
  have c10b1 : (a0_6.toList != a1_6.toList) = true := bne_iff_ne.mpr c10
  obtain rfl := Option.some.inj H
  go_enter Tryd.func88, Tryd.ntmps88
  go_wp2_with (first | ((with_reducible refine gate_dst (N := 2) rfl ?_); refine box_event ?hg (N := 2) ?hd (cs := #[.string a0_0, .bool a0_1, .slice A0_2 l0_2.length c0_2, .int .i64 a0_3, .int .i64 a0_4, .int .i64 a0_5, .string a0_6, .int .i64 a0_7, .int .i64 a0_8]) (t := 39) ?hr ?_; (case hd => rfl); (case hg => rfl); (case hr => first | (go_simp; done) | (go_simp; rfl)); intro gb239 hg w22 hbox hb; have n0_ := qas (below_step (by repeat (first | (with_reducible first | exact HB.out | apply qbA | apply qbB | apply qbC) | exact HB.out)) hb); have n1_ := qas (hbox); have n2_ := qas ((by rw [hg]; exact (below_size (by repeat (first | (with_reducible first | exact HB.out | apply qbA | apply qbB | apply qbC) | exact HB.out))) : w.heap.size ≤ gb239)); have n3_ := qas ((by rw [hg]; exact (below_size (by repeat (first | (with_reducible first | exact HB.out | apply qbA | apply qbB | apply qbC) | exact HB.out))) : w.heap.size ≤ gb239)); clear HB; have HB := n0_; have BK239 := n1_; have GW239 := n2_; have GE239 := n3_; clear n0_ n1_ n2_ n3_; clear hb hbox hg) | ((with_reducible refine gate_dst (N := 3) rfl ?_); refine box_event ?hg (N := 3) ?hd (cs := #[.string a1_0, .bool a1_1, .slice A1_2 l1_2.length c1_2, .int .i64 a1_3, .int .i64 a1_4, .int .i64 a1_5, .string a1_6, .int .i64 a1_7, .int .i64 a1_8]) (t := 39) ?hr ?_; (case hd => rfl); (case hg => rfl); (case hr => first | (go_simp; done) | (go_simp; rfl)); intro gb240 hg w23 hbox hb; have n0_ := qas (blk_below (g := gb239) (o := .cells #[.string a0_0, .bool a0_1, .slice A0_2 l0_2.length c0_2, .int .i64 a0_3, .int .i64 a0_4, .int .i64 a0_5, .string a0_6, .int .i64 a0_7, .int .i64 a0_8] 39 (0, 0)) (by (with_reducible repeat (first | refine qkA ?_ _ | refine qkB ?_ | refine qkC ?_ _)); exact BK239.out) hb); have n1_ := qas (below_step (by repeat (first | (with_reducible first | exact HB.out | apply qbA | apply qbB | apply qbC | refine below_set ?_ GE239.out) | exact HB.out)) hb); have n2_ := qas (hbox); have n3_ := qas ((by rw [hg]; exact (below_size (by repeat (first | (with_reducible first | exact HB.out | apply qbA | apply qbB | apply qbC | refine below_set ?_ GE239.out) | exact HB.out))) : w.heap.size ≤ gb240)); have n4_ := qas ((by rw [hg]; exact (below_size (by repeat (first | (with_reducible first | exact HB.out | apply qbA | apply qbB | apply qbC | refine below_set ?_ GE239.out) | exact HB.out))) : w.heap.size ≤ gb240)); have n5_ := qas ((by rw [hg]; exact Nat.ne_of_lt (blk_lt (g := gb239) (o := .cells #[.string a0_0, .bool a0_1, .slice A0_2 l0_2.length c0_2, .int .i64 a0_3, .int .i64 a0_4, .int .i64 a0_5, .string a0_6, .int .i64 a0_7, .int .i64 a0_8] 39 (0, 0)) (by (with_reducible repeat (first | refine qkA ?_ _ | refine qkB ?_ | refine qkC ?_ _)); exact BK239.out)) : gb239 ≠ gb240)); have n6_ := qas ((by rw [hg]; exact Nat.ne_of_gt (blk_lt (g := gb239) (o := .cells #[.string a0_0, .bool a0_1, .slice A0_2 l0_2.length c0_2, .int .i64 a0_3, .int .i64 a0_4, .int .i64 a0_5, .string a0_6, .int .i64 a0_7, .int .i64 a0_8] 39 (0, 0)) (by (with_reducible repeat (first | refine qkA ?_ _ | refine qkB ?_ | refine qkC ?_ _)); exact BK239.out)) : gb240 ≠ gb239)); clear BK239; clear HB; have BK239 := n0_; have HB := n1_; have BK240 := n2_; have GW240 := n3_; have GE240 := n4_; have NB239_240 := n5_; have NB240_239 := n6_; clear n0_ n1_ n2_ n3_ n4_ n5_ n6_; clear hb hbox hg; have hnb24 := NB239_240.out; have hnc24 := NB240_239.out; have hcz25_0 : w23.cell? ⟨gb239, 0, none⟩ = some (.string a0_0) := (blk_cell BK239.out 0).trans rfl; have hcz25_1 : w23.cell? ⟨gb239, 1, none⟩ = some (.bool a0_1) := (blk_cell BK239.out 1).trans rfl; have hcz25_2 : w23.cell? ⟨gb239, 2, none⟩ = some (.slice A0_2 l0_2.length c0_2) := (blk_cell BK239.out 2).trans rfl; have hcz25_3 : w23.cell? ⟨gb239, 3, none⟩ = some (.int .i64 a0_3) := (blk_cell BK239.out 3).trans rfl; have hcz25_4 : w23.cell? ⟨gb239, 4, none⟩ = some (.int .i64 a0_4) := (blk_cell BK239.out 4).trans rfl; have hcz25_5 : w23.cell? ⟨gb239, 5, none⟩ = some (.int .i64 a0_5) := (blk_cell BK239.out 5).trans rfl; have hcz25_6 : w23.cell? ⟨gb239, 6, none⟩ = some (.string a0_6) := (blk_cell BK239.out 6).trans rfl; have hcz25_7 : w23.cell? ⟨gb239, 7, none⟩ = some (.int .i64 a0_7) := (blk_cell BK239.out 7).trans rfl; have hcz25_8 : w23.cell? ⟨gb239, 8, none⟩ = some (.int .i64 a0_8) := (blk_cell BK239.out 8).trans rfl; have hfz25_0 := blk_frozen BK239.out 0; have hfz25_1 := blk_frozen BK239.out 1; have hfz25_2 := blk_frozen BK239.out 2; have hfz25_3 := blk_frozen BK239.out 3; have hfz25_4 := blk_frozen BK239.out 4; have hfz25_5 := blk_frozen BK239.out 5; have hfz25_6 := blk_frozen BK239.out 6; have hfz25_7 := blk_frozen BK239.out 7; have hfz25_8 := blk_frozen BK239.out 8; have hcz26_0 : w23.cell? ⟨gb240, 0, none⟩ = some (.string a1_0) := (blk_cell BK240.out 0).trans rfl; have hcz26_1 : w23.cell? ⟨gb240, 1, none⟩ = some (.bool a1_1) := (blk_cell BK240.out 1).trans rfl; have hcz26_2 : w23.cell? ⟨gb240, 2, none⟩ = some (.slice A1_2 l1_2.length c1_2) := (blk_cell BK240.out 2).trans rfl; have hcz26_3 : w23.cell? ⟨gb240, 3, none⟩ = some (.int .i64 a1_3) := (blk_cell BK240.out 3).trans rfl; have hcz26_4 : w23.cell? ⟨gb240, 4, none⟩ = some (.int .i64 a1_4) := (blk_cell BK240.out 4).trans rfl; have hcz26_5 : w23.cell? ⟨gb240, 5, none⟩ = some (.int .i64 a1_5) := (blk_cell BK240.out 5).trans rfl; have hcz26_6 : w23.cell? ⟨gb240, 6, none⟩ = some (.string a1_6) := (blk_cell BK240.out 6).trans rfl; have hcz26_7 : w23.cell? ⟨gb240, 7, none⟩ = some (.int .i64 a1_7) := (blk_cell BK240.out 7).trans rfl; have hcz26_8 : w23.cell? ⟨gb240, 8, none⟩ = some (.int .i64 a1_8) := (blk_cell BK240.out 8).trans rfl; have hfz26_0 := blk_frozen BK240.out 0; have hfz26_1 := blk_frozen BK240.out 1; have hfz26_2 := blk_frozen BK240.out 2; have hfz26_3 := blk_frozen BK240.out 3; have hfz26_4 := blk_frozen BK240.out 4; have hfz26_5 := blk_frozen BK240.out 5; have hfz26_6 := blk_frozen BK240.out 6; have hfz26_7 := blk_frozen BK240.out 7; have hfz26_8 := blk_frozen BK240.out 8) | (go_at_call 111; (with_reducible refine (pl_SameInts.calls k _ _ l0_2 _ _ l1_2 true _ ?side1 ?side2 ?side3 ?side4 A5.out).mono ?_); (case side1 => repeat (first | exact (Kd.C_below HR0_2.out HB.out) | (with_reducible refine Kd.C_alloc ?_ _) | (with_reducible refine Kd.C_drewN ?_ _) | (with_reducible refine Kd.C_drew ?_))); (case side2 => exact HC0_2.out); (case side3 => repeat (first | exact (Kd.C_below HR1_2.out HB.out) | (with_reducible refine Kd.C_alloc ?_ _) | (with_reducible refine Kd.C_drewN ?_ _) | (with_reducible refine Kd.C_drew ?_))); (case side4 => exact HC1_2.out); rintro e w' ⟨rfl, ⟨nd, rfl⟩⟩))
  go_ret
  exact ⟨by first | rfl | (simp [errW_none, errW_some] <;> rfl) | (simp [*, errW_none, errW_some] <;> rfl), by repeat (first | (with_reducible first | exact HB.out | apply qbA | apply qbB | apply qbC | refine below_set ?_ GE239.out | refine below_set ?_ GE240.out) | exact HB.out)⟩
 rw [if_pos c10] at H
 have c10b0 : (a0_6.toList == a1_6.toList) = true := beq_iff_eq.mpr c10
 have c10b1 : (a0_6.toList != a1_6.toList) = false := bne_eq_false_iff_eq.mpr c10
 clear c10
 by_cases c11 : a0_7 = a1_7
 rotate_left
 ·rw [if_neg c11] at H
  have c11b0 : (a0_7 == a1_7) = false := beq_eq_false_iff_ne.mpr c11
  have c11b1 : (a0_7 != a1_7) = true := bne_iff_ne.mpr c11
  obtain rfl := Option.some.inj H
  go_enter Tryd.func88, Tryd.ntmps88
  go_wp2_with (first | ((with_reducible refine gate_dst (N := 2) rfl ?_); refine box_event ?hg (N := 2) ?hd (cs := #[.string a0_0, .bool a0_1, .slice A0_2 l0_2.length c0_2, .int .i64 a0_3, .int .i64 a0_4, .int .i64 a0_5, .string a0_6, .int .i64 a0_7, .int .i64 a0_8]) (t := 39) ?hr ?_; (case hd => rfl); (case hg => rfl); (case hr => first | (go_simp; done) | (go_simp; rfl)); intro gb239 hg w17 hbox hb; have n0_ := qas (below_step (by repeat (first | (with_reducible first | exact HB.out | apply qbA | apply qbB | apply qbC) | exact HB.out)) hb); have n1_ := qas (hbox); have n2_ := qas ((by rw [hg]; exact (below_size (by repeat (first | (with_reducible first | exact HB.out | apply qbA | apply qbB | apply qbC) | exact HB.out))) : w.heap.size ≤ gb239)); have n3_ := qas ((by rw [hg]; exact (below_size (by repeat (first | (with_reducible first | exact HB.out | apply qbA | apply qbB | apply qbC) | exact HB.out))) : w.heap.size ≤ gb239)); clear HB; have HB := n0_; have BK239 := n1_; have GW239 := n2_; have GE239 := n3_; clear n0_ n1_ n2_ n3_; clear hb hbox hg) | ((with_reducible refine gate_dst (N := 3) rfl ?_); refine box_event ?hg (N := 3) ?hd (cs := #[.string a1_0, .bool a1_1, .slice A1_2 l1_2.length c1_2, .int .i64 a1_3, .int .i64 a1_4, .int .i64 a1_5, .string a1_6, .int .i64 a1_7, .int .i64 a1_8]) (t := 39) ?hr ?_; (case hd => rfl); (case hg => rfl); (case hr => first | (go_simp; done) | (go_simp; rfl)); intro gb240 hg w18 hbox hb; have n0_ := qas (blk_below (g := gb239) (o := .cells #[.string a0_0, .bool a0_1, .slice A0_2 l0_2.length c0_2, .int .i64 a0_3, .int .i64 a0_4, .int .i64 a0_5, .string a0_6, .int .i64 a0_7, .int .i64 a0_8] 39 (0, 0)) (by (with_reducible repeat (first | refine qkA ?_ _ | refine qkB ?_ | refine qkC ?_ _)); exact BK239.out) hb); have n1_ := qas (below_step (by repeat (first | (with_reducible first | exact HB.out | apply qbA | apply qbB | apply qbC | refine below_set ?_ GE239.out) | exact HB.out)) hb); have n2_ := qas (hbox); have n3_ := qas ((by rw [hg]; exact (below_size (by repeat (first | (with_reducible first | exact HB.out | apply qbA | apply qbB | apply qbC | refine below_set ?_ GE239.out) | exact HB.out))) : w.heap.size ≤ gb240)); have n4_ := qas ((by rw [hg]; exact (below_size (by repeat (first | (with_reducible first | exact HB.out | apply qbA | apply qbB | apply qbC | refine below_set ?_ GE239.out) | exact HB.out))) : w.heap.size ≤ gb240)); have n5_ := qas ((by rw [hg]; exact Nat.ne_of_lt (blk_lt (g := gb239) (o := .cells #[.string a0_0, .bool a0_1, .slice A0_2 l0_2.length c0_2, .int .i64 a0_3, .int .i64 a0_4, .int .i64 a0_5, .string a0_6, .int .i64 a0_7, .int .i64 a0_8] 39 (0, 0)) (by (with_reducible repeat (first | refine qkA ?_ _ | refine qkB ?_ | refine qkC ?_ _)); exact BK239.out)) : gb239 ≠ gb240)); have n6_ := qas ((by rw [hg]; exact Nat.ne_of_gt (blk_lt (g := gb239) (o := .cells #[.string a0_0, .bool a0_1, .slice A0_2 l0_2.length c0_2, .int .i64 a0_3, .int .i64 a0_4, .int .i64 a0_5, .string a0_6, .int .i64 a0_7, .int .i64 a0_8] 39 (0, 0)) (by (with_reducible repeat (first | refine qkA ?_ _ | refine qkB ?_ | refine qkC ?_ _)); exact BK239.out)) : gb240 ≠ gb239)); clear BK239; clear HB; have BK239 := n0_; have HB := n1_; have BK240 := n2_; have GW240 := n3_; have GE240 := n4_; have NB239_240 := n5_; have NB240_239 := n6_; clear n0_ n1_ n2_ n3_ n4_ n5_ n6_; clear hb hbox hg; have hnb19 := NB239_240.out; have hnc19 := NB240_239.out; have hcz20_0 : w18.cell? ⟨gb239, 0, none⟩ = some (.string a0_0) := (blk_cell BK239.out 0).trans rfl; have hcz20_1 : w18.cell? ⟨gb239, 1, none⟩ = some (.bool a0_1) := (blk_cell BK239.out 1).trans rfl; have hcz20_2 : w18.cell? ⟨gb239, 2, none⟩ = some (.slice A0_2 l0_2.length c0_2) := (blk_cell BK239.out 2).trans rfl; have hcz20_3 : w18.cell? ⟨gb239, 3, none⟩ = some (.int .i64 a0_3) := (blk_cell BK239.out 3).trans rfl; have hcz20_4 : w18.cell? ⟨gb239, 4, none⟩ = some (.int .i64 a0_4) := (blk_cell BK239.out 4).trans rfl; have hcz20_5 : w18.cell? ⟨gb239, 5, none⟩ = some (.int .i64 a0_5) := (blk_cell BK239.out 5).trans rfl; have hcz20_6 : w18.cell? ⟨gb239, 6, none⟩ = some (.string a0_6) := (blk_cell BK239.out 6).trans rfl; have hcz20_7 : w18.cell? ⟨gb239, 7, none⟩ = some (.int .i64 a0_7) := (blk_cell BK239.out 7).trans rfl; have hcz20_8 : w18.cell? ⟨gb239, 8, none⟩ = some (.int .i64 a0_8) := (blk_cell BK239.out 8).trans rfl; have hfz20_0 := blk_frozen BK239.out 0; have hfz20_1 := blk_frozen BK239.out 1; have hfz20_2 := blk_frozen BK239.out 2; have hfz20_3 := blk_frozen BK239.out 3; have hfz20_4 := blk_frozen BK239.out 4; have hfz20_5 := blk_frozen BK239.out 5; have hfz20_6 := blk_frozen BK239.out 6; have hfz20_7 := blk_frozen BK239.out 7; have hfz20_8 := blk_frozen BK239.out 8; have hcz21_0 : w18.cell? ⟨gb240, 0, none⟩ = some (.string a1_0) := (blk_cell BK240.out 0).trans rfl; have hcz21_1 : w18.cell? ⟨gb240, 1, none⟩ = some (.bool a1_1) := (blk_cell BK240.out 1).trans rfl; have hcz21_2 : w18.cell? ⟨gb240, 2, none⟩ = some (.slice A1_2 l1_2.length c1_2) := (blk_cell BK240.out 2).trans rfl; have hcz21_3 : w18.cell? ⟨gb240, 3, none⟩ = some (.int .i64 a1_3) := (blk_cell BK240.out 3).trans rfl; have hcz21_4 : w18.cell? ⟨gb240, 4, none⟩ = some (.int .i64 a1_4) := (blk_cell BK240.out 4).trans rfl; have hcz21_5 : w18.cell? ⟨gb240, 5, none⟩ = some (.int .i64 a1_5) := (blk_cell BK240.out 5).trans rfl; have hcz21_6 : w18.cell? ⟨gb240, 6, none⟩ = some (.string a1_6) := (blk_cell BK240.out 6).trans rfl; have hcz21_7 : w18.cell? ⟨gb240, 7, none⟩ = some (.int .i64 a1_7) := (blk_cell BK240.out 7).trans rfl; have hcz21_8 : w18.cell? ⟨gb240, 8, none⟩ = some (.int .i64 a1_8) := (blk_cell BK240.out 8).trans rfl; have hfz21_0 := blk_frozen BK240.out 0; have hfz21_1 := blk_frozen BK240.out 1; have hfz21_2 := blk_frozen BK240.out 2; have hfz21_3 := blk_frozen BK240.out 3; have hfz21_4 := blk_frozen BK240.out 4; have hfz21_5 := blk_frozen BK240.out 5; have hfz21_6 := blk_frozen BK240.out 6; have hfz21_7 := blk_frozen BK240.out 7; have hfz21_8 := blk_frozen BK240.out 8) | (go_at_call 111; (with_reducible refine (pl_SameInts.calls k _ _ l0_2 _ _ l1_2 true _ ?side1 ?side2 ?side3 ?side4 A5.out).mono ?_); (case side1 => repeat (first | exact (Kd.C_below HR0_2.out HB.out) | (with_reducible refine Kd.C_alloc ?_ _) | (with_reducible refine Kd.C_drewN ?_ _) | (with_reducible refine Kd.C_drew ?_))); (case side2 => exact HC0_2.out); (case side3 => repeat (first | exact (Kd.C_below HR1_2.out HB.out) | (with_reducible refine Kd.C_alloc ?_ _) | (with_reducible refine Kd.C_drewN ?_ _) | (with_reducible refine Kd.C_drew ?_))); (case side4 => exact HC1_2.out); rintro e w' ⟨rfl, ⟨nd, rfl⟩⟩))
  go_ret
  exact ⟨by first | rfl | (simp [errW_none, errW_some] <;> rfl) | (simp [*, errW_none, errW_some] <;> rfl), by repeat (first | (with_reducible first | exact HB.out | apply qbA | apply qbB | apply qbC | refine below_set ?_ GE239.out | refine below_set ?_ GE240.out) | exact HB.out)⟩
 rw [if_pos c11] at H
 have c11b0 : (a0_7 == a1_7) = true := beq_iff_eq.mpr c11
 have c11b1 : (a0_7 != a1_7) = false := bne_eq_false_iff_eq.mpr c11
 clear c11
 obtain rfl := Option.some.inj H
 go_enter Tryd.func88, Tryd.ntmps88
 go_wp2_with (first | ((with_reducible refine gate_dst (N := 2) rfl ?_); refine box_event ?hg (N := 2) ?hd (cs := #[.string a0_0, .bool a0_1, .slice A0_2 l0_2.length c0_2, .int .i64 a0_3, .int .i64 a0_4, .int .i64 a0_5, .string a0_6, .int .i64 a0_7, .int .i64 a0_8]) (t := 39) ?hr ?_; (case hd => rfl); (case hg => rfl); (case hr => first | (go_simp; done) | (go_simp; rfl)); intro gb239 hg w12 hbox hb; have n0_ := qas (below_step (by repeat (first | (with_reducible first | exact HB.out | apply qbA | apply qbB | apply qbC) | exact HB.out)) hb); have n1_ := qas (hbox); have n2_ := qas ((by rw [hg]; exact (below_size (by repeat (first | (with_reducible first | exact HB.out | apply qbA | apply qbB | apply qbC) | exact HB.out))) : w.heap.size ≤ gb239)); have n3_ := qas ((by rw [hg]; exact (below_size (by repeat (first | (with_reducible first | exact HB.out | apply qbA | apply qbB | apply qbC) | exact HB.out))) : w.heap.size ≤ gb239)); clear HB; have HB := n0_; have BK239 := n1_; have GW239 := n2_; have GE239 := n3_; clear n0_ n1_ n2_ n3_; clear hb hbox hg) | ((with_reducible refine gate_dst (N := 3) rfl ?_); refine box_event ?hg (N := 3) ?hd (cs := #[.string a1_0, .bool a1_1, .slice A1_2 l1_2.length c1_2, .int .i64 a1_3, .int .i64 a1_4, .int .i64 a1_5, .string a1_6, .int .i64 a1_7, .int .i64 a1_8]) (t := 39) ?hr ?_; (case hd => rfl); (case hg => rfl); (case hr => first | (go_simp; done) | (go_simp; rfl)); intro gb240 hg w13 hbox hb; have n0_ := qas (blk_below (g := gb239) (o := .cells #[.string a0_0, .bool a0_1, .slice A0_2 l0_2.length c0_2, .int .i64 a0_3, .int .i64 a0_4, .int .i64 a0_5, .string a0_6, .int .i64 a0_7, .int .i64 a0_8] 39 (0, 0)) (by (with_reducible repeat (first | refine qkA ?_ _ | refine qkB ?_ | refine qkC ?_ _)); exact BK239.out) hb); have n1_ := qas (below_step (by repeat (first | (with_reducible first | exact HB.out | apply qbA | apply qbB | apply qbC | refine below_set ?_ GE239.out) | exact HB.out)) hb); have n2_ := qas (hbox); have n3_ := qas ((by rw [hg]; exact (below_size (by repeat (first | (with_reducible first | exact HB.out | apply qbA | apply qbB | apply qbC | refine below_set ?_ GE239.out) | exact HB.out))) : w.heap.size ≤ gb240)); have n4_ := qas ((by rw [hg]; exact (below_size (by repeat (first | (with_reducible first | exact HB.out | apply qbA | apply qbB | apply qbC | refine below_set ?_ GE239.out) | exact HB.out))) : w.heap.size ≤ gb240)); have n5_ := qas ((by rw [hg]; exact Nat.ne_of_lt (blk_lt (g := gb239) (o := .cells #[.string a0_0, .bool a0_1, .slice A0_2 l0_2.length c0_2, .int .i64 a0_3, .int .i64 a0_4, .int .i64 a0_5, .string a0_6, .int .i64 a0_7, .int .i64 a0_8] 39 (0, 0)) (by (with_reducible repeat (first | refine qkA ?_ _ | refine qkB ?_ | refine qkC ?_ _)); exact BK239.out)) : gb239 ≠ gb240)); have n6_ := qas ((by rw [hg]; exact Nat.ne_of_gt (blk_lt (g := gb239) (o := .cells #[.string a0_0, .bool a0_1, .slice A0_2 l0_2.length c0_2, .int .i64 a0_3, .int .i64 a0_4, .int .i64 a0_5, .string a0_6, .int .i64 a0_7, .int .i64 a0_8] 39 (0, 0)) (by (with_reducible repeat (first | refine qkA ?_ _ | refine qkB ?_ | refine qkC ?_ _)); exact BK239.out)) : gb240 ≠ gb239)); clear BK239; clear HB; have BK239 := n0_; have HB := n1_; have BK240 := n2_; have GW240 := n3_; have GE240 := n4_; have NB239_240 := n5_; have NB240_239 := n6_; clear n0_ n1_ n2_ n3_ n4_ n5_ n6_; clear hb hbox hg; have hnb14 := NB239_240.out; have hnc14 := NB240_239.out; have hcz15_0 : w13.cell? ⟨gb239, 0, none⟩ = some (.string a0_0) := (blk_cell BK239.out 0).trans rfl; have hcz15_1 : w13.cell? ⟨gb239, 1, none⟩ = some (.bool a0_1) := (blk_cell BK239.out 1).trans rfl; have hcz15_2 : w13.cell? ⟨gb239, 2, none⟩ = some (.slice A0_2 l0_2.length c0_2) := (blk_cell BK239.out 2).trans rfl; have hcz15_3 : w13.cell? ⟨gb239, 3, none⟩ = some (.int .i64 a0_3) := (blk_cell BK239.out 3).trans rfl; have hcz15_4 : w13.cell? ⟨gb239, 4, none⟩ = some (.int .i64 a0_4) := (blk_cell BK239.out 4).trans rfl; have hcz15_5 : w13.cell? ⟨gb239, 5, none⟩ = some (.int .i64 a0_5) := (blk_cell BK239.out 5).trans rfl; have hcz15_6 : w13.cell? ⟨gb239, 6, none⟩ = some (.string a0_6) := (blk_cell BK239.out 6).trans rfl; have hcz15_7 : w13.cell? ⟨gb239, 7, none⟩ = some (.int .i64 a0_7) := (blk_cell BK239.out 7).trans rfl; have hcz15_8 : w13.cell? ⟨gb239, 8, none⟩ = some (.int .i64 a0_8) := (blk_cell BK239.out 8).trans rfl; have hfz15_0 := blk_frozen BK239.out 0; have hfz15_1 := blk_frozen BK239.out 1; have hfz15_2 := blk_frozen BK239.out 2; have hfz15_3 := blk_frozen BK239.out 3; have hfz15_4 := blk_frozen BK239.out 4; have hfz15_5 := blk_frozen BK239.out 5; have hfz15_6 := blk_frozen BK239.out 6; have hfz15_7 := blk_frozen BK239.out 7; have hfz15_8 := blk_frozen BK239.out 8; have hcz16_0 : w13.cell? ⟨gb240, 0, none⟩ = some (.string a1_0) := (blk_cell BK240.out 0).trans rfl; have hcz16_1 : w13.cell? ⟨gb240, 1, none⟩ = some (.bool a1_1) := (blk_cell BK240.out 1).trans rfl; have hcz16_2 : w13.cell? ⟨gb240, 2, none⟩ = some (.slice A1_2 l1_2.length c1_2) := (blk_cell BK240.out 2).trans rfl; have hcz16_3 : w13.cell? ⟨gb240, 3, none⟩ = some (.int .i64 a1_3) := (blk_cell BK240.out 3).trans rfl; have hcz16_4 : w13.cell? ⟨gb240, 4, none⟩ = some (.int .i64 a1_4) := (blk_cell BK240.out 4).trans rfl; have hcz16_5 : w13.cell? ⟨gb240, 5, none⟩ = some (.int .i64 a1_5) := (blk_cell BK240.out 5).trans rfl; have hcz16_6 : w13.cell? ⟨gb240, 6, none⟩ = some (.string a1_6) := (blk_cell BK240.out 6).trans rfl; have hcz16_7 : w13.cell? ⟨gb240, 7, none⟩ = some (.int .i64 a1_7) := (blk_cell BK240.out 7).trans rfl; have hcz16_8 : w13.cell? ⟨gb240, 8, none⟩ = some (.int .i64 a1_8) := (blk_cell BK240.out 8).trans rfl; have hfz16_0 := blk_frozen BK240.out 0; have hfz16_1 := blk_frozen BK240.out 1; have hfz16_2 := blk_frozen BK240.out 2; have hfz16_3 := blk_frozen BK240.out 3; have hfz16_4 := blk_frozen BK240.out 4; have hfz16_5 := blk_frozen BK240.out 5; have hfz16_6 := blk_frozen BK240.out 6; have hfz16_7 := blk_frozen BK240.out 7; have hfz16_8 := blk_frozen BK240.out 8) | (go_at_call 111; (with_reducible refine (pl_SameInts.calls k _ _ l0_2 _ _ l1_2 true _ ?side1 ?side2 ?side3 ?side4 A5.out).mono ?_); (case side1 => repeat (first | exact (Kd.C_below HR0_2.out HB.out) | (with_reducible refine Kd.C_alloc ?_ _) | (with_reducible refine Kd.C_drewN ?_ _) | (with_reducible refine Kd.C_drew ?_))); (case side2 => exact HC0_2.out); (case side3 => repeat (first | exact (Kd.C_below HR1_2.out HB.out) | (with_reducible refine Kd.C_alloc ?_ _) | (with_reducible refine Kd.C_drewN ?_ _) | (with_reducible refine Kd.C_drew ?_))); (case side4 => exact HC1_2.out); rintro e w' ⟨rfl, ⟨nd, rfl⟩⟩))
 go_ret
 exact ⟨by first | rfl | (simp [errW_none, errW_some] <;> rfl) | (simp [*, errW_none, errW_some] <;> rfl), by repeat (first | (with_reducible first | exact HB.out | apply qbA | apply qbB | apply qbC | refine below_set ?_ GE239.out | refine below_set ?_ GE240.out) | exact HB.out)⟩

attribute [local go_sem] max2_int min2_int max_two min_two max_three min_three max_four min_four   -- for this text's walks alone
set_option linter.unusedVariables false
set_option linter.unusedSimpArgs false

/-! ### pl_SameEntries: function 59 -/
def pl_SameEntries.l0 : Nat → List (S39) → List (S39) → Int → Option (Bool)
 | 0, _, _, _ => none
 | k + 1, x0, x1, x5 => if x5 < (x0.length : Int) then (if 0 ≤ x5 then (if x5 < (x1.length : Int) then ((pl_SameEntry.f k ((rd_T39 x0 x5).f0) ((rd_T39 x0 x5).f1) ((rd_T39 x0 x5).f2) ((rd_T39 x0 x5).f3) ((rd_T39 x0 x5).f4) ((rd_T39 x0 x5).f5) ((rd_T39 x0 x5).f6) ((rd_T39 x0 x5).f7) ((rd_T39 x0 x5).f8) ((rd_T39 x1 x5).f0) ((rd_T39 x1 x5).f1) ((rd_T39 x1 x5).f2) ((rd_T39 x1 x5).f3) ((rd_T39 x1 x5).f4) ((rd_T39 x1 x5).f5) ((rd_T39 x1 x5).f6) ((rd_T39 x1 x5).f7) ((rd_T39 x1 x5).f8)).bind fun t244 => (if t244 = true then (pl_SameEntries.l0 k x0 x1 (wrap64 (x5 + 1))) else (some false))) else (none)) else (none)) else (some true)
def pl_SameEntries.f (k : Nat) (l0 : List (S39)) (l1 : List (S39)) : Option (Bool) := if (l0.length : Int) = (l1.length : Int) then (pl_SameEntries.l0 k l0 l1 0) else (some false)
theorem pl_SameEntries.mono_l : ∀ k, (∀ y0 y1 y2, LeO (pl_SameEntries.l0 k y0 y1 y2) (pl_SameEntries.l0 (k + 1) y0 y1 y2))
 | 0 => fun _ _ _ r h => by simp [pl_SameEntries.l0] at h
 | k + 1 => by
  have ih0 := pl_SameEntries.mono_l k
  ·intro y0 y1 y2
   unfold pl_SameEntries.l0
   repeat' first
   | (with_reducible exact ih0 _ _ _)
   | (with_reducible exact pl_SameEntry.mono _ _ _ _ _ _ _ _ _ _ _ _ _ _ _ _ _ _ _)
   | (with_reducible exact LeO.refl _)
   | (with_reducible exact LeO.none _)
   | (with_reducible refine LeO.ite ?_ ?_)
   | (with_reducible refine LeO.bind ?_ (fun _ => ?_))
   | exact ih0 _ _ _
   | exact pl_SameEntry.mono _ _ _ _ _ _ _ _ _ _ _ _ _ _ _ _ _ _ _
   | exact LeO.none _
   | refine LeO.ite ?_ ?_
   | refine LeO.bind ?_ (fun _ => ?_)
theorem pl_SameEntries.mono : ∀ a0 a1 k, LeO (pl_SameEntries.f k a0 a1) (pl_SameEntries.f (k + 1) a0 a1) := by
 intro a0 a1 k
 have ih0 := pl_SameEntries.mono_l k
 unfold pl_SameEntries.f
 repeat' first
   | (with_reducible exact ih0 _ _ _)
   | (with_reducible exact pl_SameEntry.mono _ _ _ _ _ _ _ _ _ _ _ _ _ _ _ _ _ _ _)
   | (with_reducible exact LeO.refl _)
   | (with_reducible exact LeO.none _)
   | (with_reducible refine LeO.ite ?_ ?_)
   | (with_reducible refine LeO.bind ?_ (fun _ => ?_))
   | exact ih0 _ _ _
   | exact pl_SameEntry.mono _ _ _ _ _ _ _ _ _ _ _ _ _ _ _ _ _ _ _
   | exact LeO.none _
   | refine LeO.ite ?_ ?_
   | refine LeO.bind ?_ (fun _ => ?_)
def pl_SameEntries.T6 : Bool × List (List Nat × List Nat) := (true, [([], []), ([], []), ([0, 1], [0, 1]), ([2], [2]), ([], []), ([], []), ([4, 5], [4, 5]), ([6], [6]), ([3, 7], [3, 7]), ([8], [8])])
def pl_SameEntries.B6 : List Nat := [0, 0, 3, 7, 0, 0, 48, 112, 255, 511]
theorem pl_SameEntries.tab6 : rtab .any (opsOf Tryd.f59 6) = pl_SameEntries.T6 := by kernel_rfl
theorem pl_SameEntries.bits6 : waitsOk pl_SameEntries.T6.2 pl_SameEntries.B6 = true := by kernel_rfl
set_option maxHeartbeats 8000000 in
set_option maxRecDepth 100000 in
theorem pl_SameEntries.calls (k : Nat) (A0 : Option Addr) (c0 : Nat) (l0 : List (S39)) (A1 : Option Addr) (c1 : Nat) (l1 : List (S39)) (r : Bool) (w : World) (hr0 : Kd.C k39 w A0 l0.length l0) (hc0 : l0.length ≤ c0) (hr1 : Kd.C k39 w A1 l1.length l1) (hc1 : l1.length ≤ c1) (h : pl_SameEntries.f k l0 l1 = some r) :
  Calls Tryd.prog 59 #[.slice A0 l0.length c0, .slice A1 l1.length c1] w fun e w' => e = .returned (.bool r) ∧ Below w.heap.size w w' := by
 have hu39 := Tryd.underlying39
 have HR0 := qas hr0
 have HC0 := qas hc0
 clear hr0 hc0
 have HR1 := qas hr1
 have HC1 := qas hc1
 clear hr1 hc1
 have HB := qas (Below.refl w.heap.size w)
 have H : (if (l0.length : Int) = (l1.length : Int) then (pl_SameEntries.l0 k l0 l1 0) else (some false)) = some r := h
 clear h
 by_cases c3 : (l0.length : Int) = (l1.length : Int)
 rotate_left
 ·rw [if_neg c3] at H
  have c3b0 : ((l0.length : Int) == (l1.length : Int)) = false := beq_eq_false_iff_ne.mpr c3
  have c3b1 : ((l0.length : Int) != (l1.length : Int)) = true := bne_iff_ne.mpr c3
  have c3b2 : (l0.length == l1.length) = false := by first | simpa using c3 | (simp at c3 ⊢; omega)
  obtain rfl := Option.some.inj H
  go_enter Tryd.func59, Tryd.ntmps59
  go_wp2
  go_ret
  exact ⟨by first | rfl | (simp [errW_none, errW_some] <;> rfl) | (simp [*, errW_none, errW_some] <;> rfl), by repeat (first | (with_reducible first | exact HB.out | apply qbA | apply qbB | apply qbC) | exact HB.out)⟩
 rw [if_pos c3] at H
 have c3b0 : ((l0.length : Int) == (l1.length : Int)) = true := beq_iff_eq.mpr c3
 have c3b1 : ((l0.length : Int) != (l1.length : Int)) = false := bne_eq_false_iff_eq.mpr c3
 have c3b2 : (l0.length == l1.length) = true := by first | simpa using c3 | (simp at c3 ⊢; omega)
 clear c3
 have H' := qas H
 clear H
 go_enter Tryd.func59, Tryd.ntmps59
 go_wp2
 go_loopg [5] k (fun kq v5 w' => ∃ (x5_1 : Int), v5 = .int .i64 x5_1 ∧ Aside0 (pl_SameEntries.l0 kq l0 l1 x5_1 = some r) ∧ Aside0 (kq ≤ k) ∧ Aside0 (Below w.heap.size w w'))
 case atStart => exact ⟨(0), (by first | rfl | (simp; done) | (simp [*]; done)), H', ⟨Nat.le_refl _⟩, ⟨by repeat (first | (with_reducible first | exact HB.out | apply qbA | apply qbB | apply qbC) | exact HB.out)⟩⟩
 case round =>
  clear H'
  try clear c1
  try clear p2
  try clear c3
  try clear c3b0
  try clear c3b1
  try clear c3b2
  obtain ⟨x5_1, rfl, HA, HK1, HB⟩ := hrel
  cases gk with
  | zero => exact absurd HA.out (by simp [pl_SameEntries.l0])
  | succ k1 =>
   have H := HA.out
   clear HA
   simp only [pl_SameEntries.l0] at H
   by_cases c4 : x5_1 < (l0.length : Int)
   rotate_left
   ·rw [if_neg c4] at H
    have c4b0 : decide (x5_1 < (l0.length : Int)) = false := decide_eq_false c4
    clear c4
    obtain rfl := Option.some.inj H
    go_wp2
    go_ret
    exact ⟨by first | rfl | (simp [errW_none, errW_some] <;> rfl) | (simp [*, errW_none, errW_some] <;> rfl), by repeat (first | (with_reducible first | exact HB.out | apply qbA | apply qbB | apply qbC) | exact HB.out)⟩
   rw [if_pos c4] at H
   have c4b0 : decide (x5_1 < (l0.length : Int)) = true := decide_eq_true c4
   clear c4
   by_cases c5 : 0 ≤ x5_1
   rotate_left
   ·rw [if_neg c5] at H
    exact absurd H (by simp)
   rw [if_pos c5] at H
   have c5b0 : decide (0 ≤ x5_1) = true := decide_eq_true c5
   clear c5
   by_cases c6 : x5_1 < (l1.length : Int)
   rotate_left
   ·rw [if_neg c6] at H
    exact absurd H (by simp)
   rw [if_pos c6] at H
   have c6b0 : decide (x5_1 < (l1.length : Int)) = true := decide_eq_true c6
   clear c6
   replace H := Option.bind_eq_some_iff.mp H
   obtain ⟨t244, A70, H⟩ := H
   replace H : (if t244 = true then (pl_SameEntries.l0 k1 l0 l1 (wrap64 (x5_1 + 1))) else (some false)) = some r := H
   have A7 := qas A70
   clear A70
   by_cases c8 : t244 = true
   rotate_left
   ·replace c8 := Bool.eq_false_iff.mpr c8
    subst c8
    have H1 : (some false) = some r := by rw [if_neg (show ¬ (false = true) by decide)] at H; exact H
    clear H
    have H := H1
    clear H1
    obtain rfl := Option.some.inj H
    try go_wp2
    have n0_ := qas (qbC HB.out)
    clear HB
    have HB := n0_
    clear n0_
    have p242 : 0 ≤ (x5_1 : Int) := qde (by first | (with_reducible assumption) | assumption)
    have q242 : x5_1 < (l0.length : Int) := qde (by first | (with_reducible assumption) | assumption)
    obtain ⟨ad242, A242_2, c242_2, e242, hx242_0, hx242_1, hx242_2, hx242_3, hx242_4, hx242_5, hx242_6, hx242_7, hx242_8, hl242_2, hi242_2⟩ := at_T39 HR0.out x5_1 p242 q242
    have hw242_8 := hx242_8
    have hw242_7 := hx242_7
    have hw242_6 := hx242_6
    have hw242_5 := hx242_5
    have hw242_4 := hx242_4
    have hw242_3 := hx242_3
    have hw242_2 := hx242_2
    have hw242_1 := hx242_1
    have hw242_0 := hx242_0
    cases e242
    replace hx242_0 := (HB.out.cell (qbl w _ hx242_0)).trans hx242_0
    replace hx242_1 := (HB.out.cell (qbl w _ hx242_1)).trans hx242_1
    replace hx242_2 := (HB.out.cell (qbl w _ hx242_2)).trans hx242_2
    replace hx242_3 := (HB.out.cell (qbl w _ hx242_3)).trans hx242_3
    replace hx242_4 := (HB.out.cell (qbl w _ hx242_4)).trans hx242_4
    replace hx242_5 := (HB.out.cell (qbl w _ hx242_5)).trans hx242_5
    replace hx242_6 := (HB.out.cell (qbl w _ hx242_6)).trans hx242_6
    replace hx242_7 := (HB.out.cell (qbl w _ hx242_7)).trans hx242_7
    replace hx242_8 := (HB.out.cell (qbl w _ hx242_8)).trans hx242_8
    have HR242_2 := qas hi242_2
    have HC242_2 := qas hl242_2
    clear hi242_2 hl242_2
    replace p242 := eq_true p242
    replace q242 := eq_true q242
    have p243 : 0 ≤ (x5_1 : Int) := qde (by first | (with_reducible assumption) | assumption)
    have q243 : x5_1 < (l1.length : Int) := qde (by first | (with_reducible assumption) | assumption)
    obtain ⟨ad243, A243_2, c243_2, e243, hx243_0, hx243_1, hx243_2, hx243_3, hx243_4, hx243_5, hx243_6, hx243_7, hx243_8, hl243_2, hi243_2⟩ := at_T39 HR1.out x5_1 p243 q243
    have hw243_8 := hx243_8
    have hw243_7 := hx243_7
    have hw243_6 := hx243_6
    have hw243_5 := hx243_5
    have hw243_4 := hx243_4
    have hw243_3 := hx243_3
    have hw243_2 := hx243_2
    have hw243_1 := hx243_1
    have hw243_0 := hx243_0
    cases e243
    replace hx243_0 := (HB.out.cell (qbl w _ hx243_0)).trans hx243_0
    replace hx243_1 := (HB.out.cell (qbl w _ hx243_1)).trans hx243_1
    replace hx243_2 := (HB.out.cell (qbl w _ hx243_2)).trans hx243_2
    replace hx243_3 := (HB.out.cell (qbl w _ hx243_3)).trans hx243_3
    replace hx243_4 := (HB.out.cell (qbl w _ hx243_4)).trans hx243_4
    replace hx243_5 := (HB.out.cell (qbl w _ hx243_5)).trans hx243_5
    replace hx243_6 := (HB.out.cell (qbl w _ hx243_6)).trans hx243_6
    replace hx243_7 := (HB.out.cell (qbl w _ hx243_7)).trans hx243_7
    replace hx243_8 := (HB.out.cell (qbl w _ hx243_8)).trans hx243_8
    have HR243_2 := qas hi243_2
    have HC243_2 := qas hl243_2
    clear hi243_2 hl243_2
    replace p243 := eq_true p243
    replace q243 := eq_true q243
    refine start_ (n := 10) (S := fun w' => w'.cell? (ad242.add ((x5_1).toNat * 9)) = some (.string ((rd_T39 l0 x5_1).f0)) ∧ w'.cell? ⟨(ad242.add ((x5_1).toNat * 9)).block, (ad242.add ((x5_1).toNat * 9)).off + 1, none⟩ = some (.bool ((rd_T39 l0 x5_1).f1)) ∧ w'.cell? ⟨(ad242.add ((x5_1).toNat * 9)).block, (ad242.add ((x5_1).toNat * 9)).off + 2, none⟩ = some (.slice A242_2 ((rd_T39 l0 x5_1).f2).length c242_2) ∧ w'.cell? ⟨(ad242.add ((x5_1).toNat * 9)).block, (ad242.add ((x5_1).toNat * 9)).off + 3, none⟩ = some (.int .i64 ((rd_T39 l0 x5_1).f3)) ∧ w'.cell? ⟨(ad242.add ((x5_1).toNat * 9)).block, (ad242.add ((x5_1).toNat * 9)).off + 4, none⟩ = some (.int .i64 ((rd_T39 l0 x5_1).f4)) ∧ w'.cell? ⟨(ad242.add ((x5_1).toNat * 9)).block, (ad242.add ((x5_1).toNat * 9)).off + 5, none⟩ = some (.int .i64 ((rd_T39 l0 x5_1).f5)) ∧ w'.cell? ⟨(ad242.add ((x5_1).toNat * 9)).block, (ad242.add ((x5_1).toNat * 9)).off + 6, none⟩ = some (.string ((rd_T39 l0 x5_1).f6)) ∧ w'.cell? ⟨(ad242.add ((x5_1).toNat * 9)).block, (ad242.add ((x5_1).toNat * 9)).off + 7, none⟩ = some (.int .i64 ((rd_T39 l0 x5_1).f7)) ∧ w'.cell? ⟨(ad242.add ((x5_1).toNat * 9)).block, (ad242.add ((x5_1).toNat * 9)).off + 8, none⟩ = some (.int .i64 ((rd_T39 l0 x5_1).f8)) ∧ w'.cell? (ad243.add ((x5_1).toNat * 9)) = some (.string ((rd_T39 l1 x5_1).f0)) ∧ w'.cell? ⟨(ad243.add ((x5_1).toNat * 9)).block, (ad243.add ((x5_1).toNat * 9)).off + 1, none⟩ = some (.bool ((rd_T39 l1 x5_1).f1)) ∧ w'.cell? ⟨(ad243.add ((x5_1).toNat * 9)).block, (ad243.add ((x5_1).toNat * 9)).off + 2, none⟩ = some (.slice A243_2 ((rd_T39 l1 x5_1).f2).length c243_2) ∧ w'.cell? ⟨(ad243.add ((x5_1).toNat * 9)).block, (ad243.add ((x5_1).toNat * 9)).off + 3, none⟩ = some (.int .i64 ((rd_T39 l1 x5_1).f3)) ∧ w'.cell? ⟨(ad243.add ((x5_1).toNat * 9)).block, (ad243.add ((x5_1).toNat * 9)).off + 4, none⟩ = some (.int .i64 ((rd_T39 l1 x5_1).f4)) ∧ w'.cell? ⟨(ad243.add ((x5_1).toNat * 9)).block, (ad243.add ((x5_1).toNat * 9)).off + 5, none⟩ = some (.int .i64 ((rd_T39 l1 x5_1).f5)) ∧ w'.cell? ⟨(ad243.add ((x5_1).toNat * 9)).block, (ad243.add ((x5_1).toNat * 9)).off + 6, none⟩ = some (.string ((rd_T39 l1 x5_1).f6)) ∧ w'.cell? ⟨(ad243.add ((x5_1).toNat * 9)).block, (ad243.add ((x5_1).toNat * 9)).off + 7, none⟩ = some (.int .i64 ((rd_T39 l1 x5_1).f7)) ∧ w'.cell? ⟨(ad243.add ((x5_1).toNat * 9)).block, (ad243.add ((x5_1).toNat * 9)).off + 8, none⟩ = some (.int .i64 ((rd_T39 l1 x5_1).f8))) (ds := []) #[qf, qf, qf, qf, qf, qf, qf, qf, qf, qf] (by kernel_rfl) rfl rfl ⟨((HB.out.cell (qbl w _ hw242_0)).trans hw242_0), ((HB.out.cell (qbl w _ hw242_1)).trans hw242_1), ((HB.out.cell (qbl w _ hw242_2)).trans hw242_2), ((HB.out.cell (qbl w _ hw242_3)).trans hw242_3), ((HB.out.cell (qbl w _ hw242_4)).trans hw242_4), ((HB.out.cell (qbl w _ hw242_5)).trans hw242_5), ((HB.out.cell (qbl w _ hw242_6)).trans hw242_6), ((HB.out.cell (qbl w _ hw242_7)).trans hw242_7), ((HB.out.cell (qbl w _ hw242_8)).trans hw242_8), ((HB.out.cell (qbl w _ hw243_0)).trans hw243_0), ((HB.out.cell (qbl w _ hw243_1)).trans hw243_1), ((HB.out.cell (qbl w _ hw243_2)).trans hw243_2), ((HB.out.cell (qbl w _ hw243_3)).trans hw243_3), ((HB.out.cell (qbl w _ hw243_4)).trans hw243_4), ((HB.out.cell (qbl w _ hw243_5)).trans hw243_5), ((HB.out.cell (qbl w _ hw243_6)).trans hw243_6), ((HB.out.cell (qbl w _ hw243_7)).trans hw243_7), ((HB.out.cell (qbl w _ hw243_8)).trans hw243_8)⟩ (fun hHeld => ?_); refine with_tabW pl_SameEntries.tab6 pl_SameEntries.bits6 (fun HT_ HW_ => ?_)
    generalize wr.drew = w11 at HB HR242_2 HR243_2 hx242_0 hx242_1 hx242_2 hx242_3 hx242_4 hx242_5 hx242_6 hx242_7 hx242_8 hx243_0 hx243_1 hx243_2 hx243_3 hx243_4 hx243_5 hx243_6 hx243_7 hx243_8 hHeld ⊢
    refine pure_ (i := 0) (N := some 17) (v := ?_) (a' := ?_) #[qt, qf, qf, qf, qf, qf, qf, qf, qf, qf] rfl rfl (any_of HT_.out (by kernel_rfl)) (fun _ _ _ h => h) (Or.inl ⟨by rfl, ?_⟩) ?_ ?_
    rotate_left
    ·intro w'
     go_simp
     with_reducible rfl
    rotate_left
    ·simp only [Act.put, qsA, qsB, qsC, i64_w, i32_w, qsD, qsE]
     rfl
    refine pure_ (i := 1) (N := some 18) (v := ?_) (a' := ?_) #[qt, qt, qf, qf, qf, qf, qf, qf, qf, qf] rfl rfl (any_of HT_.out (by kernel_rfl)) (fun _ _ _ h => h) (Or.inl ⟨by rfl, ?_⟩) ?_ ?_
    rotate_left
    ·intro w'
     go_simp
     with_reducible rfl
    rotate_left
    ·simp only [Act.put, qsA, qsB, qsC, i64_w, i32_w, qsD, qsE]
     rfl
    refine pure_ (i := 2) (N := some 19) (v := ?_) (a' := ?_) #[qt, qt, qt, qf, qf, qf, qf, qf, qf, qf] rfl rfl (any_of HT_.out (by kernel_rfl)) (fun _ _ _ h => h) (Or.inl ⟨by rfl, ?_⟩) ?_ ?_
    rotate_left
    ·intro w'
     go_simp
     with_reducible rfl
    rotate_left
    ·simp only [Act.put, qsA, qsB, qsC, i64_w, i32_w, qsD, qsE]
     rfl
    refine pure_ (i := 4) (N := some 21) (v := ?_) (a' := ?_) #[qt, qt, qt, qf, qt, qf, qf, qf, qf, qf] rfl rfl (any_of HT_.out (by kernel_rfl)) (fun _ _ _ h => h) (Or.inl ⟨by rfl, ?_⟩) ?_ ?_
    rotate_left
    ·intro w'
     go_simp
     with_reducible rfl
    rotate_left
    ·simp only [Act.put, qsA, qsB, qsC, i64_w, i32_w, qsD, qsE]
     rfl
    refine pure_ (i := 5) (N := some 22) (v := ?_) (a' := ?_) #[qt, qt, qt, qf, qt, qt, qf, qf, qf, qf] rfl rfl (any_of HT_.out (by kernel_rfl)) (fun _ _ _ h => h) (Or.inl ⟨by rfl, ?_⟩) ?_ ?_
    rotate_left
    ·intro w'
     go_simp
     with_reducible rfl
    rotate_left
    ·simp only [Act.put, qsA, qsB, qsC, i64_w, i32_w, qsD, qsE]
     rfl
    refine pure_ (i := 6) (N := some 23) (v := ?_) (a' := ?_) #[qt, qt, qt, qf, qt, qt, qt, qf, qf, qf] rfl rfl (any_of HT_.out (by kernel_rfl)) (fun _ _ _ h => h) (Or.inl ⟨by rfl, ?_⟩) ?_ ?_
    rotate_left
    ·intro w'
     go_simp
     with_reducible rfl
    rotate_left
    ·simp only [Act.put, qsA, qsB, qsC, i64_w, i32_w, qsD, qsE]
     rfl
    refine take_ (i := 3) (N := some 20) (v := ?_) (a' := ?_) #[qt, qt, qt, qt, qt, qt, qt, qf, qf, qf] rfl rfl (take_ofW HT_.out HW_.out (by kernel_rfl)) (fun _ _ _ h => h) (Or.inl ⟨by rfl, ?_⟩) hHeld ?_ ?_
    rotate_left
    ·rintro w' ⟨s0, s1, s2, s3, s4, s5, s6, s7, s8, s9, s10, s11, s12, s13, s14, s15, s16, s17⟩
     go_simp
     with_reducible rfl
    rotate_left
    ·simp only [Act.put, qsA, qsB, qsC, i64_w, i32_w, qsD, qsE]
     rfl
    refine take_ (i := 7) (N := some 24) (v := ?_) (a' := ?_) #[qt, qt, qt, qt, qt, qt, qt, qt, qf, qf] rfl rfl (take_ofW HT_.out HW_.out (by kernel_rfl)) (fun _ _ _ h => h) (Or.inl ⟨by rfl, ?_⟩) hHeld ?_ ?_
    rotate_left
    ·rintro w' ⟨s0, s1, s2, s3, s4, s5, s6, s7, s8, s9, s10, s11, s12, s13, s14, s15, s16, s17⟩
     go_simp
     with_reducible rfl
    rotate_left
    ·simp only [Act.put, qsA, qsB, qsC, i64_w, i32_w, qsD, qsE]
     rfl
    refine one_ (i := 8) (N := some 25) #[qt, qt, qt, qt, qt, qt, qt, qt, qt, qf] rfl rfl (one_of HT_.out (by kernel_rfl)) (by decide) (fun K hK => ?_)
    refine goes_ Tryd.func88 (by kernel_rfl) rfl #[.agg #[.string ((rd_T39 l0 x5_1).f0), .bool ((rd_T39 l0 x5_1).f1), .slice A242_2 ((rd_T39 l0 x5_1).f2).length c242_2, .int .i64 ((rd_T39 l0 x5_1).f3), .int .i64 ((rd_T39 l0 x5_1).f4), .int .i64 ((rd_T39 l0 x5_1).f5), .string ((rd_T39 l0 x5_1).f6), .int .i64 ((rd_T39 l0 x5_1).f7), .int .i64 ((rd_T39 l0 x5_1).f8)], .agg #[.string ((rd_T39 l1 x5_1).f0), .bool ((rd_T39 l1 x5_1).f1), .slice A243_2 ((rd_T39 l1 x5_1).f2).length c243_2, .int .i64 ((rd_T39 l1 x5_1).f3), .int .i64 ((rd_T39 l1 x5_1).f4), .int .i64 ((rd_T39 l1 x5_1).f5), .string ((rd_T39 l1 x5_1).f6), .int .i64 ((rd_T39 l1 x5_1).f7), .int .i64 ((rd_T39 l1 x5_1).f8)]] (by rfl) rfl rfl (by (try simp only [List.map_toArray, List.map_cons, List.map_nil]); first | done | rfl | (simp only [List.length_drop, List.length_take]; rfl)) ?_
    with_reducible refine (pl_SameEntry.calls k1 ((rd_T39 l0 x5_1).f0) ((rd_T39 l0 x5_1).f1) _ _ ((rd_T39 l0 x5_1).f2) ((rd_T39 l0 x5_1).f3) ((rd_T39 l0 x5_1).f4) ((rd_T39 l0 x5_1).f5) ((rd_T39 l0 x5_1).f6) ((rd_T39 l0 x5_1).f7) ((rd_T39 l0 x5_1).f8) ((rd_T39 l1 x5_1).f0) ((rd_T39 l1 x5_1).f1) _ _ ((rd_T39 l1 x5_1).f2) ((rd_T39 l1 x5_1).f3) ((rd_T39 l1 x5_1).f4) ((rd_T39 l1 x5_1).f5) ((rd_T39 l1 x5_1).f6) ((rd_T39 l1 x5_1).f7) ((rd_T39 l1 x5_1).f8) false _ ?side1 ?side2 ?side3 ?side4 A7.out).mono ?_
    (case side1 => repeat (first | exact (Kd.C_below HR242_2.out HB.out) | (with_reducible refine Kd.C_alloc ?_ _) | (with_reducible refine Kd.C_drewN ?_ _) | (with_reducible refine Kd.C_drew ?_)))
    (case side2 => exact HC242_2.out)
    (case side3 => repeat (first | exact (Kd.C_below HR243_2.out HB.out) | (with_reducible refine Kd.C_alloc ?_ _) | (with_reducible refine Kd.C_drewN ?_ _) | (with_reducible refine Kd.C_drew ?_)))
    (case side4 => exact HC243_2.out)
    rintro e w12 ⟨rfl, hb⟩
    refine ⟨_, rfl, ?_⟩
    have n0_ := qas (below_step (by repeat (first | (with_reducible first | exact HB.out | apply qbA | apply qbB | apply qbC) | exact HB.out)) hb)
    clear HB
    have HB := n0_
    clear n0_
    (try clear hb)
    (try clear hb2)
    (try clear hk)
    (try clear hi)
    refine hK.out _ _ ⟨((HB.out.cell (qbl w _ hw242_0)).trans hw242_0), ((HB.out.cell (qbl w _ hw242_1)).trans hw242_1), ((HB.out.cell (qbl w _ hw242_2)).trans hw242_2), ((HB.out.cell (qbl w _ hw242_3)).trans hw242_3), ((HB.out.cell (qbl w _ hw242_4)).trans hw242_4), ((HB.out.cell (qbl w _ hw242_5)).trans hw242_5), ((HB.out.cell (qbl w _ hw242_6)).trans hw242_6), ((HB.out.cell (qbl w _ hw242_7)).trans hw242_7), ((HB.out.cell (qbl w _ hw242_8)).trans hw242_8), ((HB.out.cell (qbl w _ hw243_0)).trans hw243_0), ((HB.out.cell (qbl w _ hw243_1)).trans hw243_1), ((HB.out.cell (qbl w _ hw243_2)).trans hw243_2), ((HB.out.cell (qbl w _ hw243_3)).trans hw243_3), ((HB.out.cell (qbl w _ hw243_4)).trans hw243_4), ((HB.out.cell (qbl w _ hw243_5)).trans hw243_5), ((HB.out.cell (qbl w _ hw243_6)).trans hw243_6), ((HB.out.cell (qbl w _ hw243_7)).trans hw243_7), ((HB.out.cell (qbl w _ hw243_8)).trans hw243_8)⟩ (fun hHeld => ?_)
    clear hK K
    refine norm_ (a' := ?_) ?_ ?_
    rotate_left
    ·show Act.put _ (some 25) _ = _
     simp only [Act.put, qsA, qsB, qsC, i64_w, i32_w, qsD, qsE]
     rfl
    refine pure_ (i := 9) (N := some 26) (v := ?_) (a' := ?_) #[qt, qt, qt, qt, qt, qt, qt, qt, qt, qt] rfl rfl (any_of HT_.out (by kernel_rfl)) (fun _ _ _ h => h) (Or.inl ⟨by rfl, ?_⟩) ?_ ?_
    rotate_left
    ·intro w'
     go_simp
     with_reducible rfl
    rotate_left
    ·simp only [Act.put, qsA, qsB, qsC, i64_w, i32_w, qsD, qsE]
     rfl
    refine done_ (done_of HT_.out (by kernel_rfl)) ?_
    try go_wp2
    go_ret
    exact ⟨by first | rfl | (simp [errW_none, errW_some] <;> rfl) | (simp [*, errW_none, errW_some] <;> rfl), by repeat (first | (with_reducible first | exact HB.out | apply qbA | apply qbB | apply qbC) | exact HB.out)⟩
   subst c8
   have H1 : (pl_SameEntries.l0 k1 l0 l1 (wrap64 (x5_1 + 1))) = some r := by rw [if_pos rfl] at H; exact H
   clear H
   have H := H1
   clear H1
   have H' := qas H
   clear H
   try go_wp2
   have n0_ := qas (qbC HB.out)
   clear HB
   have HB := n0_
   clear n0_
   have p242 : 0 ≤ (x5_1 : Int) := qde (by first | (with_reducible assumption) | assumption)
   have q242 : x5_1 < (l0.length : Int) := qde (by first | (with_reducible assumption) | assumption)
   obtain ⟨ad242, A242_2, c242_2, e242, hx242_0, hx242_1, hx242_2, hx242_3, hx242_4, hx242_5, hx242_6, hx242_7, hx242_8, hl242_2, hi242_2⟩ := at_T39 HR0.out x5_1 p242 q242
   have hw242_8 := hx242_8
   have hw242_7 := hx242_7
   have hw242_6 := hx242_6
   have hw242_5 := hx242_5
   have hw242_4 := hx242_4
   have hw242_3 := hx242_3
   have hw242_2 := hx242_2
   have hw242_1 := hx242_1
   have hw242_0 := hx242_0
   cases e242
   replace hx242_0 := (HB.out.cell (qbl w _ hx242_0)).trans hx242_0
   replace hx242_1 := (HB.out.cell (qbl w _ hx242_1)).trans hx242_1
   replace hx242_2 := (HB.out.cell (qbl w _ hx242_2)).trans hx242_2
   replace hx242_3 := (HB.out.cell (qbl w _ hx242_3)).trans hx242_3
   replace hx242_4 := (HB.out.cell (qbl w _ hx242_4)).trans hx242_4
   replace hx242_5 := (HB.out.cell (qbl w _ hx242_5)).trans hx242_5
   replace hx242_6 := (HB.out.cell (qbl w _ hx242_6)).trans hx242_6
   replace hx242_7 := (HB.out.cell (qbl w _ hx242_7)).trans hx242_7
   replace hx242_8 := (HB.out.cell (qbl w _ hx242_8)).trans hx242_8
   have HR242_2 := qas hi242_2
   have HC242_2 := qas hl242_2
   clear hi242_2 hl242_2
   replace p242 := eq_true p242
   replace q242 := eq_true q242
   have p243 : 0 ≤ (x5_1 : Int) := qde (by first | (with_reducible assumption) | assumption)
   have q243 : x5_1 < (l1.length : Int) := qde (by first | (with_reducible assumption) | assumption)
   obtain ⟨ad243, A243_2, c243_2, e243, hx243_0, hx243_1, hx243_2, hx243_3, hx243_4, hx243_5, hx243_6, hx243_7, hx243_8, hl243_2, hi243_2⟩ := at_T39 HR1.out x5_1 p243 q243
   have hw243_8 := hx243_8
   have hw243_7 := hx243_7
   have hw243_6 := hx243_6
   have hw243_5 := hx243_5
   have hw243_4 := hx243_4
   have hw243_3 := hx243_3
   have hw243_2 := hx243_2
   have hw243_1 := hx243_1
   have hw243_0 := hx243_0
   cases e243
   replace hx243_0 := (HB.out.cell (qbl w _ hx243_0)).trans hx243_0
   replace hx243_1 := (HB.out.cell (qbl w _ hx243_1)).trans hx243_1
   replace hx243_2 := (HB.out.cell (qbl w _ hx243_2)).trans hx243_2
   replace hx243_3 := (HB.out.cell (qbl w _ hx243_3)).trans hx243_3
   replace hx243_4 := (HB.out.cell (qbl w _ hx243_4)).trans hx243_4
   replace hx243_5 := (HB.out.cell (qbl w _ hx243_5)).trans hx243_5
   replace hx243_6 := (HB.out.cell (qbl w _ hx243_6)).trans hx243_6
   replace hx243_7 := (HB.out.cell (qbl w _ hx243_7)).trans hx243_7
   replace hx243_8 := (HB.out.cell (qbl w _ hx243_8)).trans hx243_8
   have HR243_2 := qas hi243_2
   have HC243_2 := qas hl243_2
   clear hi243_2 hl243_2
   replace p243 := eq_true p243
   replace q243 := eq_true q243
   refine start_ (n := 10) (S := fun w' => w'.cell? (ad242.add ((x5_1).toNat * 9)) = some (.string ((rd_T39 l0 x5_1).f0)) ∧ w'.cell? ⟨(ad242.add ((x5_1).toNat * 9)).block, (ad242.add ((x5_1).toNat * 9)).off + 1, none⟩ = some (.bool ((rd_T39 l0 x5_1).f1)) ∧ w'.cell? ⟨(ad242.add ((x5_1).toNat * 9)).block, (ad242.add ((x5_1).toNat * 9)).off + 2, none⟩ = some (.slice A242_2 ((rd_T39 l0 x5_1).f2).length c242_2) ∧ w'.cell? ⟨(ad242.add ((x5_1).toNat * 9)).block, (ad242.add ((x5_1).toNat * 9)).off + 3, none⟩ = some (.int .i64 ((rd_T39 l0 x5_1).f3)) ∧ w'.cell? ⟨(ad242.add ((x5_1).toNat * 9)).block, (ad242.add ((x5_1).toNat * 9)).off + 4, none⟩ = some (.int .i64 ((rd_T39 l0 x5_1).f4)) ∧ w'.cell? ⟨(ad242.add ((x5_1).toNat * 9)).block, (ad242.add ((x5_1).toNat * 9)).off + 5, none⟩ = some (.int .i64 ((rd_T39 l0 x5_1).f5)) ∧ w'.cell? ⟨(ad242.add ((x5_1).toNat * 9)).block, (ad242.add ((x5_1).toNat * 9)).off + 6, none⟩ = some (.string ((rd_T39 l0 x5_1).f6)) ∧ w'.cell? ⟨(ad242.add ((x5_1).toNat * 9)).block, (ad242.add ((x5_1).toNat * 9)).off + 7, none⟩ = some (.int .i64 ((rd_T39 l0 x5_1).f7)) ∧ w'.cell? ⟨(ad242.add ((x5_1).toNat * 9)).block, (ad242.add ((x5_1).toNat * 9)).off + 8, none⟩ = some (.int .i64 ((rd_T39 l0 x5_1).f8)) ∧ w'.cell? (ad243.add ((x5_1).toNat * 9)) = some (.string ((rd_T39 l1 x5_1).f0)) ∧ w'.cell? ⟨(ad243.add ((x5_1).toNat * 9)).block, (ad243.add ((x5_1).toNat * 9)).off + 1, none⟩ = some (.bool ((rd_T39 l1 x5_1).f1)) ∧ w'.cell? ⟨(ad243.add ((x5_1).toNat * 9)).block, (ad243.add ((x5_1).toNat * 9)).off + 2, none⟩ = some (.slice A243_2 ((rd_T39 l1 x5_1).f2).length c243_2) ∧ w'.cell? ⟨(ad243.add ((x5_1).toNat * 9)).block, (ad243.add ((x5_1).toNat * 9)).off + 3, none⟩ = some (.int .i64 ((rd_T39 l1 x5_1).f3)) ∧ w'.cell? ⟨(ad243.add ((x5_1).toNat * 9)).block, (ad243.add ((x5_1).toNat * 9)).off + 4, none⟩ = some (.int .i64 ((rd_T39 l1 x5_1).f4)) ∧ w'.cell? ⟨(ad243.add ((x5_1).toNat * 9)).block, (ad243.add ((x5_1).toNat * 9)).off + 5, none⟩ = some (.int .i64 ((rd_T39 l1 x5_1).f5)) ∧ w'.cell? ⟨(ad243.add ((x5_1).toNat * 9)).block, (ad243.add ((x5_1).toNat * 9)).off + 6, none⟩ = some (.string ((rd_T39 l1 x5_1).f6)) ∧ w'.cell? ⟨(ad243.add ((x5_1).toNat * 9)).block, (ad243.add ((x5_1).toNat * 9)).off + 7, none⟩ = some (.int .i64 ((rd_T39 l1 x5_1).f7)) ∧ w'.cell? ⟨(ad243.add ((x5_1).toNat * 9)).block, (ad243.add ((x5_1).toNat * 9)).off + 8, none⟩ = some (.int .i64 ((rd_T39 l1 x5_1).f8))) (ds := []) #[qf, qf, qf, qf, qf, qf, qf, qf, qf, qf] (by kernel_rfl) rfl rfl ⟨((HB.out.cell (qbl w _ hw242_0)).trans hw242_0), ((HB.out.cell (qbl w _ hw242_1)).trans hw242_1), ((HB.out.cell (qbl w _ hw242_2)).trans hw242_2), ((HB.out.cell (qbl w _ hw242_3)).trans hw242_3), ((HB.out.cell (qbl w _ hw242_4)).trans hw242_4), ((HB.out.cell (qbl w _ hw242_5)).trans hw242_5), ((HB.out.cell (qbl w _ hw242_6)).trans hw242_6), ((HB.out.cell (qbl w _ hw242_7)).trans hw242_7), ((HB.out.cell (qbl w _ hw242_8)).trans hw242_8), ((HB.out.cell (qbl w _ hw243_0)).trans hw243_0), ((HB.out.cell (qbl w _ hw243_1)).trans hw243_1), ((HB.out.cell (qbl w _ hw243_2)).trans hw243_2), ((HB.out.cell (qbl w _ hw243_3)).trans hw243_3), ((HB.out.cell (qbl w _ hw243_4)).trans hw243_4), ((HB.out.cell (qbl w _ hw243_5)).trans hw243_5), ((HB.out.cell (qbl w _ hw243_6)).trans hw243_6), ((HB.out.cell (qbl w _ hw243_7)).trans hw243_7), ((HB.out.cell (qbl w _ hw243_8)).trans hw243_8)⟩ (fun hHeld => ?_); refine with_tabW pl_SameEntries.tab6 pl_SameEntries.bits6 (fun HT_ HW_ => ?_)
   generalize wr.drew = w9 at HB HR242_2 HR243_2 hx242_0 hx242_1 hx242_2 hx242_3 hx242_4 hx242_5 hx242_6 hx242_7 hx242_8 hx243_0 hx243_1 hx243_2 hx243_3 hx243_4 hx243_5 hx243_6 hx243_7 hx243_8 hHeld ⊢
   refine pure_ (i := 0) (N := some 17) (v := ?_) (a' := ?_) #[qt, qf, qf, qf, qf, qf, qf, qf, qf, qf] rfl rfl (any_of HT_.out (by kernel_rfl)) (fun _ _ _ h => h) (Or.inl ⟨by rfl, ?_⟩) ?_ ?_
   rotate_left
   ·intro w'
    go_simp
    with_reducible rfl
   rotate_left
   ·simp only [Act.put, qsA, qsB, qsC, i64_w, i32_w, qsD, qsE]
    rfl
   refine pure_ (i := 1) (N := some 18) (v := ?_) (a' := ?_) #[qt, qt, qf, qf, qf, qf, qf, qf, qf, qf] rfl rfl (any_of HT_.out (by kernel_rfl)) (fun _ _ _ h => h) (Or.inl ⟨by rfl, ?_⟩) ?_ ?_
   rotate_left
   ·intro w'
    go_simp
    with_reducible rfl
   rotate_left
   ·simp only [Act.put, qsA, qsB, qsC, i64_w, i32_w, qsD, qsE]
    rfl
   refine pure_ (i := 2) (N := some 19) (v := ?_) (a' := ?_) #[qt, qt, qt, qf, qf, qf, qf, qf, qf, qf] rfl rfl (any_of HT_.out (by kernel_rfl)) (fun _ _ _ h => h) (Or.inl ⟨by rfl, ?_⟩) ?_ ?_
   rotate_left
   ·intro w'
    go_simp
    with_reducible rfl
   rotate_left
   ·simp only [Act.put, qsA, qsB, qsC, i64_w, i32_w, qsD, qsE]
    rfl
   refine pure_ (i := 4) (N := some 21) (v := ?_) (a' := ?_) #[qt, qt, qt, qf, qt, qf, qf, qf, qf, qf] rfl rfl (any_of HT_.out (by kernel_rfl)) (fun _ _ _ h => h) (Or.inl ⟨by rfl, ?_⟩) ?_ ?_
   rotate_left
   ·intro w'
    go_simp
    with_reducible rfl
   rotate_left
   ·simp only [Act.put, qsA, qsB, qsC, i64_w, i32_w, qsD, qsE]
    rfl
   refine pure_ (i := 5) (N := some 22) (v := ?_) (a' := ?_) #[qt, qt, qt, qf, qt, qt, qf, qf, qf, qf] rfl rfl (any_of HT_.out (by kernel_rfl)) (fun _ _ _ h => h) (Or.inl ⟨by rfl, ?_⟩) ?_ ?_
   rotate_left
   ·intro w'
    go_simp
    with_reducible rfl
   rotate_left
   ·simp only [Act.put, qsA, qsB, qsC, i64_w, i32_w, qsD, qsE]
    rfl
   refine pure_ (i := 6) (N := some 23) (v := ?_) (a' := ?_) #[qt, qt, qt, qf, qt, qt, qt, qf, qf, qf] rfl rfl (any_of HT_.out (by kernel_rfl)) (fun _ _ _ h => h) (Or.inl ⟨by rfl, ?_⟩) ?_ ?_
   rotate_left
   ·intro w'
    go_simp
    with_reducible rfl
   rotate_left
   ·simp only [Act.put, qsA, qsB, qsC, i64_w, i32_w, qsD, qsE]
    rfl
   refine take_ (i := 3) (N := some 20) (v := ?_) (a' := ?_) #[qt, qt, qt, qt, qt, qt, qt, qf, qf, qf] rfl rfl (take_ofW HT_.out HW_.out (by kernel_rfl)) (fun _ _ _ h => h) (Or.inl ⟨by rfl, ?_⟩) hHeld ?_ ?_
   rotate_left
   ·rintro w' ⟨s0, s1, s2, s3, s4, s5, s6, s7, s8, s9, s10, s11, s12, s13, s14, s15, s16, s17⟩
    go_simp
    with_reducible rfl
   rotate_left
   ·simp only [Act.put, qsA, qsB, qsC, i64_w, i32_w, qsD, qsE]
    rfl
   refine take_ (i := 7) (N := some 24) (v := ?_) (a' := ?_) #[qt, qt, qt, qt, qt, qt, qt, qt, qf, qf] rfl rfl (take_ofW HT_.out HW_.out (by kernel_rfl)) (fun _ _ _ h => h) (Or.inl ⟨by rfl, ?_⟩) hHeld ?_ ?_
   rotate_left
   ·rintro w' ⟨s0, s1, s2, s3, s4, s5, s6, s7, s8, s9, s10, s11, s12, s13, s14, s15, s16, s17⟩
    go_simp
    with_reducible rfl
   rotate_left
   ·simp only [Act.put, qsA, qsB, qsC, i64_w, i32_w, qsD, qsE]
    rfl
   refine one_ (i := 8) (N := some 25) #[qt, qt, qt, qt, qt, qt, qt, qt, qt, qf] rfl rfl (one_of HT_.out (by kernel_rfl)) (by decide) (fun K hK => ?_)
   refine goes_ Tryd.func88 (by kernel_rfl) rfl #[.agg #[.string ((rd_T39 l0 x5_1).f0), .bool ((rd_T39 l0 x5_1).f1), .slice A242_2 ((rd_T39 l0 x5_1).f2).length c242_2, .int .i64 ((rd_T39 l0 x5_1).f3), .int .i64 ((rd_T39 l0 x5_1).f4), .int .i64 ((rd_T39 l0 x5_1).f5), .string ((rd_T39 l0 x5_1).f6), .int .i64 ((rd_T39 l0 x5_1).f7), .int .i64 ((rd_T39 l0 x5_1).f8)], .agg #[.string ((rd_T39 l1 x5_1).f0), .bool ((rd_T39 l1 x5_1).f1), .slice A243_2 ((rd_T39 l1 x5_1).f2).length c243_2, .int .i64 ((rd_T39 l1 x5_1).f3), .int .i64 ((rd_T39 l1 x5_1).f4), .int .i64 ((rd_T39 l1 x5_1).f5), .string ((rd_T39 l1 x5_1).f6), .int .i64 ((rd_T39 l1 x5_1).f7), .int .i64 ((rd_T39 l1 x5_1).f8)]] (by rfl) rfl rfl (by (try simp only [List.map_toArray, List.map_cons, List.map_nil]); first | done | rfl | (simp only [List.length_drop, List.length_take]; rfl)) ?_
   with_reducible refine (pl_SameEntry.calls k1 ((rd_T39 l0 x5_1).f0) ((rd_T39 l0 x5_1).f1) _ _ ((rd_T39 l0 x5_1).f2) ((rd_T39 l0 x5_1).f3) ((rd_T39 l0 x5_1).f4) ((rd_T39 l0 x5_1).f5) ((rd_T39 l0 x5_1).f6) ((rd_T39 l0 x5_1).f7) ((rd_T39 l0 x5_1).f8) ((rd_T39 l1 x5_1).f0) ((rd_T39 l1 x5_1).f1) _ _ ((rd_T39 l1 x5_1).f2) ((rd_T39 l1 x5_1).f3) ((rd_T39 l1 x5_1).f4) ((rd_T39 l1 x5_1).f5) ((rd_T39 l1 x5_1).f6) ((rd_T39 l1 x5_1).f7) ((rd_T39 l1 x5_1).f8) true _ ?side1 ?side2 ?side3 ?side4 A7.out).mono ?_
   (case side1 => repeat (first | exact (Kd.C_below HR242_2.out HB.out) | (with_reducible refine Kd.C_alloc ?_ _) | (with_reducible refine Kd.C_drewN ?_ _) | (with_reducible refine Kd.C_drew ?_)))
   (case side2 => exact HC242_2.out)
   (case side3 => repeat (first | exact (Kd.C_below HR243_2.out HB.out) | (with_reducible refine Kd.C_alloc ?_ _) | (with_reducible refine Kd.C_drewN ?_ _) | (with_reducible refine Kd.C_drew ?_)))
   (case side4 => exact HC243_2.out)
   rintro e w10 ⟨rfl, hb⟩
   refine ⟨_, rfl, ?_⟩
   have n0_ := qas (below_step (by repeat (first | (with_reducible first | exact HB.out | apply qbA | apply qbB | apply qbC) | exact HB.out)) hb)
   clear HB
   have HB := n0_
   clear n0_
   (try clear hb)
   (try clear hb2)
   (try clear hk)
   (try clear hi)
   refine hK.out _ _ ⟨((HB.out.cell (qbl w _ hw242_0)).trans hw242_0), ((HB.out.cell (qbl w _ hw242_1)).trans hw242_1), ((HB.out.cell (qbl w _ hw242_2)).trans hw242_2), ((HB.out.cell (qbl w _ hw242_3)).trans hw242_3), ((HB.out.cell (qbl w _ hw242_4)).trans hw242_4), ((HB.out.cell (qbl w _ hw242_5)).trans hw242_5), ((HB.out.cell (qbl w _ hw242_6)).trans hw242_6), ((HB.out.cell (qbl w _ hw242_7)).trans hw242_7), ((HB.out.cell (qbl w _ hw242_8)).trans hw242_8), ((HB.out.cell (qbl w _ hw243_0)).trans hw243_0), ((HB.out.cell (qbl w _ hw243_1)).trans hw243_1), ((HB.out.cell (qbl w _ hw243_2)).trans hw243_2), ((HB.out.cell (qbl w _ hw243_3)).trans hw243_3), ((HB.out.cell (qbl w _ hw243_4)).trans hw243_4), ((HB.out.cell (qbl w _ hw243_5)).trans hw243_5), ((HB.out.cell (qbl w _ hw243_6)).trans hw243_6), ((HB.out.cell (qbl w _ hw243_7)).trans hw243_7), ((HB.out.cell (qbl w _ hw243_8)).trans hw243_8)⟩ (fun hHeld => ?_)
   clear hK K
   refine norm_ (a' := ?_) ?_ ?_
   rotate_left
   ·show Act.put _ (some 25) _ = _
    simp only [Act.put, qsA, qsB, qsC, i64_w, i32_w, qsD, qsE]
    rfl
   refine pure_ (i := 9) (N := some 26) (v := ?_) (a' := ?_) #[qt, qt, qt, qt, qt, qt, qt, qt, qt, qt] rfl rfl (any_of HT_.out (by kernel_rfl)) (fun _ _ _ h => h) (Or.inl ⟨by rfl, ?_⟩) ?_ ?_
   rotate_left
   ·intro w'
    go_simp
    with_reducible rfl
   rotate_left
   ·simp only [Act.put, qsA, qsB, qsC, i64_w, i32_w, qsD, qsE]
    rfl
   refine done_ (done_of HT_.out (by kernel_rfl)) ?_
   try go_wp2
   go_roundg k1
   case measure => have := HK1.out; omega
   case rel => exact ⟨(wrap64 (x5_1 + 1)), (by first | rfl | (simp; done) | (simp [*]; done)), H', ⟨by have := HK1.out; omega⟩, ⟨by repeat (first | (with_reducible first | exact HB.out | apply qbA | apply qbB | apply qbC) | exact HB.out)⟩⟩

/-! ### pl_SameFolder: function 24 -/
def pl_SameFolder.f (k : Nat) (l0_0 : List (S39)) (l1_0 : List (S39)) : Option (Bool) := (pl_SameEntries.f k l0_0 l1_0).bind fun t247 => (some t247)
theorem pl_SameFolder.mono : ∀ a0 a1 k, LeO (pl_SameFolder.f k a0 a1) (pl_SameFolder.f (k + 1) a0 a1) := by
 intro a0 a1 k
 unfold pl_SameFolder.f
 repeat' first
   | (with_reducible exact pl_SameEntries.mono _ _ _)
   | (with_reducible exact LeO.refl _)
   | (with_reducible exact LeO.none _)
   | (with_reducible refine LeO.ite ?_ ?_)
   | (with_reducible refine LeO.bind ?_ (fun _ => ?_))
   | exact pl_SameEntries.mono _ _ _
   | exact LeO.none _
   | refine LeO.ite ?_ ?_
   | refine LeO.bind ?_ (fun _ => ?_)
set_option maxHeartbeats 8000000 in
set_option maxRecDepth 100000 in
theorem pl_SameFolder.calls (k : Nat) (A0_0 : Option Addr) (c0_0 : Nat) (l0_0 : List (S39)) (A1_0 : Option Addr) (c1_0 : Nat) (l1_0 : List (S39)) (r : Bool) (w : World) (hr0_0 : Kd.C k39 w A0_0 l0_0.length l0_0) (hc0_0 : l0_0.length ≤ c0_0) (hr1_0 : Kd.C k39 w A1_0 l1_0.length l1_0) (hc1_0 : l1_0.length ≤ c1_0) (h : pl_SameFolder.f k l0_0 l1_0 = some r) :
  Calls Tryd.prog 24 #[.agg #[.slice A0_0 l0_0.length c0_0], .agg #[.slice A1_0 l1_0.length c1_0]] w fun e w' => e = .returned (.bool r) ∧ Below w.heap.size w w' := by
 have hu24 := Tryd.underlying24
 have HR0_0 := qas hr0_0
 have HC0_0 := qas hc0_0
 clear hr0_0 hc0_0
 have HR1_0 := qas hr1_0
 have HC1_0 := qas hc1_0
 clear hr1_0 hc1_0
 have HB := qas (Below.refl w.heap.size w)
 have H : ((pl_SameEntries.f k l0_0 l1_0).bind fun t247 => (some t247)) = some r := h
 clear h
 replace H := Option.bind_eq_some_iff.mp H
 obtain ⟨t247, A30, H⟩ := H
 replace H : (some t247) = some r := H
 have A3 := qas A30
 clear A30
 obtain rfl := Option.some.inj H
 go_enter Tryd.func24, Tryd.ntmps24
 go_wp2_with (first | ((with_reducible refine gate_dst (N := 2) rfl ?_); refine box_event ?hg (N := 2) ?hd (cs := #[.slice A0_0 l0_0.length c0_0]) (t := 24) ?hr ?_; (case hd => rfl); (case hg => rfl); (case hr => first | (go_simp; done) | (go_simp; rfl)); intro gb245 hg w4 hbox hb; have n0_ := qas (below_step (by repeat (first | (with_reducible first | exact HB.out | apply qbA | apply qbB | apply qbC) | exact HB.out)) hb); have n1_ := qas (hbox); have n2_ := qas ((by rw [hg]; exact (below_size (by repeat (first | (with_reducible first | exact HB.out | apply qbA | apply qbB | apply qbC) | exact HB.out))) : w.heap.size ≤ gb245)); have n3_ := qas ((by rw [hg]; exact (below_size (by repeat (first | (with_reducible first | exact HB.out | apply qbA | apply qbB | apply qbC) | exact HB.out))) : w.heap.size ≤ gb245)); clear HB; have HB := n0_; have BK245 := n1_; have GW245 := n2_; have GE245 := n3_; clear n0_ n1_ n2_ n3_; clear hb hbox hg) | ((with_reducible refine gate_dst (N := 3) rfl ?_); refine box_event ?hg (N := 3) ?hd (cs := #[.slice A1_0 l1_0.length c1_0]) (t := 24) ?hr ?_; (case hd => rfl); (case hg => rfl); (case hr => first | (go_simp; done) | (go_simp; rfl)); intro gb246 hg w5 hbox hb; have n0_ := qas (blk_below (g := gb245) (o := .cells #[.slice A0_0 l0_0.length c0_0] 24 (0, 0)) (by (with_reducible repeat (first | refine qkA ?_ _ | refine qkB ?_ | refine qkC ?_ _)); exact BK245.out) hb); have n1_ := qas (below_step (by repeat (first | (with_reducible first | exact HB.out | apply qbA | apply qbB | apply qbC | refine below_set ?_ GE245.out) | exact HB.out)) hb); have n2_ := qas (hbox); have n3_ := qas ((by rw [hg]; exact (below_size (by repeat (first | (with_reducible first | exact HB.out | apply qbA | apply qbB | apply qbC | refine below_set ?_ GE245.out) | exact HB.out))) : w.heap.size ≤ gb246)); have n4_ := qas ((by rw [hg]; exact (below_size (by repeat (first | (with_reducible first | exact HB.out | apply qbA | apply qbB | apply qbC | refine below_set ?_ GE245.out) | exact HB.out))) : w.heap.size ≤ gb246)); have n5_ := qas ((by rw [hg]; exact Nat.ne_of_lt (blk_lt (g := gb245) (o := .cells #[.slice A0_0 l0_0.length c0_0] 24 (0, 0)) (by (with_reducible repeat (first | refine qkA ?_ _ | refine qkB ?_ | refine qkC ?_ _)); exact BK245.out)) : gb245 ≠ gb246)); have n6_ := qas ((by rw [hg]; exact Nat.ne_of_gt (blk_lt (g := gb245) (o := .cells #[.slice A0_0 l0_0.length c0_0] 24 (0, 0)) (by (with_reducible repeat (first | refine qkA ?_ _ | refine qkB ?_ | refine qkC ?_ _)); exact BK245.out)) : gb246 ≠ gb245)); clear BK245; clear HB; have BK245 := n0_; have HB := n1_; have BK246 := n2_; have GW246 := n3_; have GE246 := n4_; have NB245_246 := n5_; have NB246_245 := n6_; clear n0_ n1_ n2_ n3_ n4_ n5_ n6_; clear hb hbox hg; have hnb6 := NB245_246.out; have hnc6 := NB246_245.out; have hcz7_0 : w5.cell? ⟨gb245, 0, none⟩ = some (.slice A0_0 l0_0.length c0_0) := (blk_cell BK245.out 0).trans rfl; have hfz7_0 := blk_frozen BK245.out 0; have hcz8_0 : w5.cell? ⟨gb246, 0, none⟩ = some (.slice A1_0 l1_0.length c1_0) := (blk_cell BK246.out 0).trans rfl; have hfz8_0 := blk_frozen BK246.out 0) | ((with_reducible refine gate_callee (f := 59) rfl ?_); refine goesL_ (some 9) rfl rfl Tryd.func59 (by kernel_rfl) rfl #[.slice A0_0 l0_0.length c0_0, .slice A1_0 l1_0.length c1_0] rfl (by (try simp only [List.map_toArray, List.map_cons, List.map_nil]); first | done | rfl | (simp only [List.length_drop, List.length_take]; rfl)) ?_; (with_reducible refine (pl_SameEntries.calls k _ _ l0_0 _ _ l1_0 t247 _ ?side1 ?side2 ?side3 ?side4 A3.out).mono ?_); (case side1 => repeat (first | exact (Kd.C_below HR0_0.out HB.out) | (with_reducible refine Kd.C_alloc ?_ _) | (with_reducible refine Kd.C_drewN ?_ _) | (with_reducible refine Kd.C_drew ?_))); (case side2 => exact HC0_0.out); (case side3 => repeat (first | exact (Kd.C_below HR1_0.out HB.out) | (with_reducible refine Kd.C_alloc ?_ _) | (with_reducible refine Kd.C_drewN ?_ _) | (with_reducible refine Kd.C_drew ?_))); (case side4 => exact HC1_0.out); rintro e w9 ⟨rfl, hb⟩; refine ⟨_, rfl, ?_⟩; have n0_ := qas (blk_below (g := gb245) (o := .cells #[.slice A0_0 l0_0.length c0_0] 24 (0, 0)) (by (with_reducible repeat (first | refine qkA ?_ _ | refine qkB ?_ | refine qkC ?_ _)); exact BK245.out) hb); have n1_ := qas (blk_below (g := gb246) (o := .cells #[.slice A1_0 l1_0.length c1_0] 24 (0, 0)) (by (with_reducible repeat (first | refine qkA ?_ _ | refine qkB ?_ | refine qkC ?_ _)); exact BK246.out) hb); have n2_ := qas (below_step (by repeat (first | (with_reducible first | exact HB.out | apply qbA | apply qbB | apply qbC | refine below_set ?_ GE245.out | refine below_set ?_ GE246.out) | exact HB.out)) hb); clear BK245; clear BK246; clear HB; have BK245 := n0_; have BK246 := n1_; have HB := n2_; clear n0_ n1_ n2_; (try clear hb); (try clear hb2); (try clear hk); (try clear hi)))
 go_ret
 exact ⟨by first | rfl | (simp [errW_none, errW_some] <;> rfl) | (simp [*, errW_none, errW_some] <;> rfl), by repeat (first | (with_reducible first | exact HB.out | apply qbA | apply qbB | apply qbC | refine below_set ?_ GE245.out | refine below_set ?_ GE246.out) | exact HB.out)⟩

attribute [local go_sem] max2_int min2_int max_two min_two max_three min_three max_four min_four   -- for this text's walks alone
set_option linter.unusedVariables false
set_option linter.unusedSimpArgs false

/-! ### ps_turn: function 89 -/
mutual
def ps_turn.l0 : Nat → Int → ByteArray → Int → Option (Int)
 | 0, _, _, _ => none
 | k + 1, x0, x1, x5 => if x5 < (x1.size : Int) then (if 0 ≤ x5 then (ps_turn.l1 k (Go.bits .xor .u32 x0 ((bt x1 x5) % 4294967296)) x1 x5 0) else (none)) else (some x0)
def ps_turn.l1 : Nat → Int → ByteArray → Int → Int → Option (Int)
 | 0, _, _, _, _ => none
 | k + 1, x0, x1, x5, x6 => if x6 < 8 then (if (Go.bits .and .u32 x0 1) = 1 then (ps_turn.l1 k (Go.bits .xor .u32 (x0 / 2) 3988292384) x1 x5 (wrap64 (x6 + 1))) else (ps_turn.l1 k (x0 / 2) x1 x5 (wrap64 (x6 + 1)))) else (ps_turn.l0 k x0 x1 (wrap64 (x5 + 1)))
end
def ps_turn.f (k : Nat) (a0 : Int) (a1 : ByteArray) : Option (Int) := ps_turn.l0 k a0 a1 0
theorem ps_turn.mono_l : ∀ k, (∀ y0 y1 y2, LeO (ps_turn.l0 k y0 y1 y2) (ps_turn.l0 (k + 1) y0 y1 y2)) ∧ (∀ y0 y1 y2 y3, LeO (ps_turn.l1 k y0 y1 y2 y3) (ps_turn.l1 (k + 1) y0 y1 y2 y3))
 | 0 => ⟨fun _ _ _ r h => by simp [ps_turn.l0] at h, fun _ _ _ _ r h => by simp [ps_turn.l1] at h⟩
 | k + 1 => by
  obtain ⟨ih0, ih1⟩ := ps_turn.mono_l k
  refine ⟨?_, ?_⟩
  ·intro y0 y1 y2
   unfold ps_turn.l0
   repeat' first
   | (with_reducible exact ih0 _ _ _)
   | (with_reducible exact ih1 _ _ _ _)
   | (with_reducible exact LeO.refl _)
   | (with_reducible exact LeO.none _)
   | (with_reducible refine LeO.ite ?_ ?_)
   | (with_reducible refine LeO.bind ?_ (fun _ => ?_))
   | exact ih0 _ _ _
   | exact ih1 _ _ _ _
   | exact LeO.none _
   | refine LeO.ite ?_ ?_
   | refine LeO.bind ?_ (fun _ => ?_)
  ·intro y0 y1 y2 y3
   unfold ps_turn.l1
   repeat' first
   | (with_reducible exact ih0 _ _ _)
   | (with_reducible exact ih1 _ _ _ _)
   | (with_reducible exact LeO.refl _)
   | (with_reducible exact LeO.none _)
   | (with_reducible refine LeO.ite ?_ ?_)
   | (with_reducible refine LeO.bind ?_ (fun _ => ?_))
   | exact ih0 _ _ _
   | exact ih1 _ _ _ _
   | exact LeO.none _
   | refine LeO.ite ?_ ?_
   | refine LeO.bind ?_ (fun _ => ?_)
theorem ps_turn.mono : ∀ a0 a1 k, LeO (ps_turn.f k a0 a1) (ps_turn.f (k + 1) a0 a1) := by
 intro a0 a1 k
 obtain ⟨ih0, ih1⟩ := ps_turn.mono_l k
 unfold ps_turn.f
 repeat' first
   | (with_reducible exact ih0 _ _ _)
   | (with_reducible exact ih1 _ _ _ _)
   | (with_reducible exact LeO.refl _)
   | (with_reducible exact LeO.none _)
   | (with_reducible refine LeO.ite ?_ ?_)
   | (with_reducible refine LeO.bind ?_ (fun _ => ?_))
   | exact ih0 _ _ _
   | exact ih1 _ _ _ _
   | exact LeO.none _
   | refine LeO.ite ?_ ?_
   | refine LeO.bind ?_ (fun _ => ?_)
set_option maxHeartbeats 8000000 in
set_option maxRecDepth 100000 in
theorem ps_turn.calls (k : Nat) (a0 : Int) (a1 : ByteArray) (r : Int) (w : World) (h : ps_turn.f k a0 a1 = some r) :
  Calls Tryd.prog 89 #[.int .u32 a0, .string a1] w fun e w' => e = .returned (.int .u32 r) ∧ Drawn0 w w' := by
 have H : (ps_turn.l0 k a0 a1 0) = some r := h
 clear h
 have H' := qas H
 clear H
 go_enter Tryd.func89, Tryd.ntmps89
 go_wp2
 go_loopg [0, 5] k (fun kq v0 v5 w' => ∃ (x0_1 : Int) (x5_1 : Int), v0 = .int .u32 x0_1 ∧ v5 = .int .i64 x5_1 ∧ Aside0 (ps_turn.l0 kq x0_1 a1 x5_1 = some r) ∧ Aside0 (kq ≤ k) ∧ Drawn0 w w')
 case atStart => exact ⟨(a0), (0), (by first | rfl | (simp; done) | (simp [*]; done)), (by first | rfl | (simp; done) | (simp [*]; done)), H', ⟨Nat.le_refl _⟩, by repeat (first | exact Drawn0.refl _ | apply Drawn0.step)⟩
 case round =>
  clear H'
  try clear p2
  obtain ⟨x0_1, x5_1, rfl, rfl, HA, HK1, ⟨m1, rfl⟩⟩ := hrel
  cases gk with
  | zero => exact absurd HA.out (by simp [ps_turn.l0])
  | succ k1 =>
   have H := HA.out
   clear HA
   simp only [ps_turn.l0] at H
   by_cases c3 : x5_1 < (a1.size : Int)
   rotate_left
   ·rw [if_neg c3] at H
    have c3b0 : decide (x5_1 < (a1.size : Int)) = false := decide_eq_false c3
    clear c3
    obtain rfl := Option.some.inj H
    go_wp2
    go_ret
    exact ⟨by first | rfl | (simp; done) | (simp [*]; done), by repeat (first | exact Drawn0.refl _ | apply Drawn0.step)⟩
   rw [if_pos c3] at H
   have c3b0 : decide (x5_1 < (a1.size : Int)) = true := decide_eq_true c3
   clear c3
   by_cases c4 : 0 ≤ x5_1
   rotate_left
   ·rw [if_neg c4] at H
    exact absurd H (by simp)
   rw [if_pos c4] at H
   have c4b0 : decide (0 ≤ x5_1) = true := decide_eq_true c4
   clear c4
   have H' := qas H
   clear H
   have p5 : 0 ≤ (x5_1 : Int) := qde (by first | (with_reducible assumption) | assumption)
   have q5 : x5_1 < (a1.size : Int) := qde (by first | (with_reducible assumption) | assumption)
   have hx5 := bt_at a1 x5_1
   replace p5 := eq_true p5
   replace q5 := eq_true q5
   go_wp2
   go_loopg [0, 6] k1 (fun kq v0 v6 w' => ∃ (x0_2 : Int) (x6_2 : Int), v0 = .int .u32 x0_2 ∧ v6 = .int .i64 x6_2 ∧ Aside0 (ps_turn.l1 kq x0_2 a1 x5_1 x6_2 = some r) ∧ Aside0 (kq ≤ k1) ∧ Drawn0 w w')
   case atStart => exact ⟨(Go.bits .xor .u32 x0_1 ((bt a1 x5_1) % 4294967296)), (0), (by first | rfl | (simp; done) | (simp [*]; done)), (by first | rfl | (simp; done) | (simp [*]; done)), H', ⟨Nat.le_refl _⟩, by repeat (first | exact Drawn0.refl _ | apply Drawn0.step)⟩
   case round =>
    clear H'
    try clear p2
    try clear c3
    try clear c3b0
    try clear c4
    try clear c4b0
    try clear p5
    try clear q5
    try clear hx5
    try clear p2
    try clear p5
    try clear q5
    obtain ⟨x0_2, x6_2, rfl, rfl, HA, HK2, ⟨m2, rfl⟩⟩ := hrel
    cases gk with
    | zero => exact absurd HA.out (by simp [ps_turn.l1])
    | succ k2 =>
     have H := HA.out
     clear HA
     simp only [ps_turn.l1] at H
     by_cases c6 : x6_2 < 8
     rotate_left
     ·rw [if_neg c6] at H
      have c6b0 : decide (x6_2 < 8) = false := decide_eq_false c6
      clear c6
      have H' := qas H
      clear H
      go_wp2
      go_roundg k2
      case measure => have := HK1.out; have := HK2.out; omega
      case rel => exact ⟨(x0_2), (wrap64 (x5_1 + 1)), (by first | rfl | (simp; done) | (simp [*]; done)), (by first | rfl | (simp; done) | (simp [*]; done)), H', ⟨by have := HK1.out; have := HK2.out; omega⟩, by repeat (first | exact Drawn0.refl _ | apply Drawn0.step)⟩
     rw [if_pos c6] at H
     have c6b0 : decide (x6_2 < 8) = true := decide_eq_true c6
     clear c6
     by_cases c7 : (Go.bits .and .u32 x0_2 1) = 1
     rotate_left
     ·rw [if_neg c7] at H
      have c7b0 : ((Go.bits .and .u32 x0_2 1) == 1) = false := beq_eq_false_iff_ne.mpr c7
      have c7b1 : ((Go.bits .and .u32 x0_2 1) != 1) = true := bne_iff_ne.mpr c7
      have H' := qas H
      clear H
      go_wp2
      go_roundg k2
      case measure => have := HK1.out; have := HK2.out; omega
      case rel => exact ⟨(x0_2 / 2), (wrap64 (x6_2 + 1)), (by first | rfl | (simp; done) | (simp [*]; done)), (by first | rfl | (simp; done) | (simp [*]; done)), H', ⟨by have := HK1.out; have := HK2.out; omega⟩, by repeat (first | exact Drawn0.refl _ | apply Drawn0.step)⟩
     rw [if_pos c7] at H
     have c7b0 : ((Go.bits .and .u32 x0_2 1) == 1) = true := beq_iff_eq.mpr c7
     have c7b1 : ((Go.bits .and .u32 x0_2 1) != 1) = false := bne_eq_false_iff_eq.mpr c7
     clear c7
     have H' := qas H
     clear H
     go_wp2
     go_roundg k2
     case measure => have := HK1.out; have := HK2.out; omega
     case rel => exact ⟨(Go.bits .xor .u32 (x0_2 / 2) 3988292384), (wrap64 (x6_2 + 1)), (by first | rfl | (simp; done) | (simp [*]; done)), (by first | rfl | (simp; done) | (simp [*]; done)), H', ⟨by have := HK1.out; have := HK2.out; omega⟩, by repeat (first | exact Drawn0.refl _ | apply Drawn0.step)⟩

/-! ### ps_Crc: function 60 -/
def ps_Crc.f (k : Nat) (a0 : ByteArray) : Option (Int) := (ps_turn.f k 4294967295 a0).bind fun t248 => (some (wrap64 (Go.bits .xor .u32 4294967295 t248)))
theorem ps_Crc.mono : ∀ a0 k, LeO (ps_Crc.f k a0) (ps_Crc.f (k + 1) a0) := by
 intro a0 k
 unfold ps_Crc.f
 repeat' first
   | (with_reducible exact ps_turn.mono _ _ _)
   | (with_reducible exact LeO.refl _)
   | (with_reducible exact LeO.none _)
   | (with_reducible refine LeO.ite ?_ ?_)
   | (with_reducible refine LeO.bind ?_ (fun _ => ?_))
   | exact ps_turn.mono _ _ _
   | exact LeO.none _
   | refine LeO.ite ?_ ?_
   | refine LeO.bind ?_ (fun _ => ?_)
set_option maxHeartbeats 8000000 in
set_option maxRecDepth 100000 in
theorem ps_Crc.calls (k : Nat) (a0 : ByteArray) (r : Int) (w : World) (h : ps_Crc.f k a0 = some r) :
  Calls Tryd.prog 60 #[.string a0] w fun e w' => e = .returned (.int .i64 r) ∧ Drawn0 w w' := by
 have H : ((ps_turn.f k 4294967295 a0).bind fun t248 => (some (wrap64 (Go.bits .xor .u32 4294967295 t248)))) = some r := h
 clear h
 replace H := Option.bind_eq_some_iff.mp H
 obtain ⟨t248, A20, H⟩ := H
 replace H : (some (wrap64 (Go.bits .xor .u32 4294967295 t248))) = some r := H
 have A2 := qas A20
 clear A20
 obtain rfl := Option.some.inj H
 go_enter Tryd.func60, Tryd.ntmps60
 go_wp2_with (first | ((with_reducible refine gate_callee (f := 89) rfl ?_); refine goesL_ (some 4) rfl rfl Tryd.func89 (by kernel_rfl) rfl #[.int .u32 4294967295, .string a0] rfl (by (try simp only [List.map_toArray, List.map_cons, List.map_nil]); first | done | rfl | (simp only [List.length_drop, List.length_take]; rfl)) ?_; (with_reducible refine (ps_turn.calls k 4294967295 a0 t248 _ A2.out).mono ?_); rintro e w' ⟨rfl, ⟨nd, rfl⟩⟩; refine ⟨_, rfl, ?_⟩))
 go_ret
 exact ⟨by first | rfl | (simp; done) | (simp [*]; done), by repeat (first | exact Drawn0.refl _ | apply Drawn0.step)⟩

/-! ### pn_small: function 32 -/
def pn_small.f (k : Nat) (a0 : ByteArray) (a1 : Int) (a2 : Int) (a3 : ByteArray) : Option (ByteArray × Bool × List Int × Int × Int × Int × ByteArray × Int × Int) := if 4 ≤ 35184372088832 then ((some (List.replicate 4 0 : List Int)).bind fun y250 => (if 0 ≤ a1 then (if a1 < (y250.length : Int) then ((ps_Crc.f k a3).bind fun t254 => (some (a0, false, (y250.set (a1 : Int).toNat a2), a2, a1, 0, a3, (a3.size : Int), t254))) else (none)) else (none))) else (none)
theorem pn_small.mono : ∀ a0 a1 a2 a3 k, LeO (pn_small.f k a0 a1 a2 a3) (pn_small.f (k + 1) a0 a1 a2 a3) := by
 intro a0 a1 a2 a3 k
 unfold pn_small.f
 repeat' first
   | (with_reducible exact ps_Crc.mono _ _)
   | (with_reducible exact LeO.refl _)
   | (with_reducible exact LeO.none _)
   | (with_reducible refine LeO.ite ?_ ?_)
   | (with_reducible refine LeO.bind ?_ (fun _ => ?_))
   | exact ps_Crc.mono _ _
   | exact LeO.none _
   | refine LeO.ite ?_ ?_
   | refine LeO.bind ?_ (fun _ => ?_)
set_option maxHeartbeats 8000000 in
set_option maxRecDepth 100000 in
theorem pn_small.calls (k : Nat) (a0 : ByteArray) (a1 : Int) (a2 : Int) (a3 : ByteArray) (r1 : ByteArray) (r2 : Bool) (r3 : List Int) (r4 : Int) (r5 : Int) (r6 : Int) (r7 : ByteArray) (r8 : Int) (r9 : Int) (w : World) (h : pn_small.f k a0 a1 a2 a3 = some (r1, r2, r3, r4, r5, r6, r7, r8, r9)) :
  Calls Tryd.prog 32 #[.string a0, .int .i64 a1, .int .i64 a2, .string a3] w fun e w' => ∃ v2_ : Value, e = .returned (.agg #[.string r1, .bool r2, v2_, .int .i64 r4, .int .i64 r5, .int .i64 r6, .string r7, .int .i64 r8, .int .i64 r9]) ∧ Kd.R (Kd.int .i64) 3 w' w.heap.size (fun _ => True) v2_ r3 ∧ Below w.heap.size w w' := by
 have hu39 := Tryd.underlying39
 have HB := qas (Below.refl w.heap.size w)
 have H : (if 4 ≤ 35184372088832 then ((some (List.replicate 4 0 : List Int)).bind fun y250 => (if 0 ≤ a1 then (if a1 < (y250.length : Int) then ((ps_Crc.f k a3).bind fun t254 => (some (a0, false, (y250.set (a1 : Int).toNat a2), a2, a1, 0, a3, (a3.size : Int), t254))) else (none)) else (none))) else (none)) = some (r1, r2, r3, r4, r5, r6, r7, r8, r9) := h
 clear h
 by_cases c5 : 4 ≤ 35184372088832
 rotate_left
 ·rw [if_neg c5] at H
  exact absurd H (by simp)
 rw [if_pos c5] at H
 have c5b0 := eq_true c5
 have c5b1 : decide (4 ≤ 35184372088832) = true := decide_eq_true c5
 clear c5
 obtain ⟨y250, hy250⟩ : ∃ y_ : List Int, y_ = (List.replicate 4 0) := ⟨_, rfl⟩
 replace H : (if 0 ≤ a1 then (if a1 < (y250.length : Int) then ((ps_Crc.f k a3).bind fun t254 => (some (a0, false, (y250.set (a1 : Int).toNat a2), a2, a1, 0, a3, (a3.size : Int), t254))) else (none)) else (none)) = some (r1, r2, r3, r4, r5, r6, r7, r8, r9) := by first | (rw [hy250]; with_reducible exact H) | (have H2_ := (Option.bind_some _ _).symm.trans H; rw [hy250]; with_reducible exact H2_) | (have H2_ := (Option.bind_some _ _).symm.trans H; with_reducible exact H2_) | with_reducible exact H | (rw [hy250]; exact H) | exact H
 have Ny250 := qas hy250
 clear hy250
 by_cases c6 : 0 ≤ a1
 rotate_left
 ·rw [if_neg c6] at H
  exact absurd H (by simp)
 rw [if_pos c6] at H
 have c6b0 : decide (0 ≤ a1) = true := decide_eq_true c6
 clear c6
 by_cases c7 : a1 < (y250.length : Int)
 rotate_left
 ·rw [if_neg c7] at H
  exact absurd H (by simp)
 rw [if_pos c7] at H
 have c7b0 : decide (a1 < (y250.length : Int)) = true := decide_eq_true c7
 clear c7
 obtain ⟨y253, hy253⟩ : ∃ y_ : List Int, y_ = (y250.set (a1 : Int).toNat a2) := ⟨_, rfl⟩
 replace H : ((ps_Crc.f k a3).bind fun t254 => (some (a0, false, y253, a2, a1, 0, a3, (a3.size : Int), t254))) = some (r1, r2, r3, r4, r5, r6, r7, r8, r9) := by first | (rw [hy253]; with_reducible exact H) | (have H2_ := (Option.bind_some _ _).symm.trans H; rw [hy253]; with_reducible exact H2_) | (have H2_ := (Option.bind_some _ _).symm.trans H; with_reducible exact H2_) | with_reducible exact H | (rw [hy253]; exact H) | exact H
 have Ny253 := qas hy253
 clear hy253
 replace H := Option.bind_eq_some_iff.mp H
 obtain ⟨t254, A90, H⟩ := H
 replace H : (some (a0, false, y253, a2, a1, 0, a3, (a3.size : Int), t254)) = some (r1, r2, r3, r4, r5, r6, r7, r8, r9) := H
 have A9 := qas A90
 clear A90
 simp only [Option.some.injEq, Prod.mk.injEq] at H
 obtain ⟨rfl, rfl, rfl, rfl, rfl, rfl, rfl, rfl, rfl⟩ := H
 go_enter Tryd.func32, Tryd.ntmps32
 go_wp2_with (first | ((with_reducible refine gate_dst (N := 8) rfl ?_); refine box_event ?hg (N := 8) ?hd (cs := #[.string (⟨#[]⟩ : ByteArray), .bool false, .slice none 0 0, .int .i64 0, .int .i64 0, .int .i64 0, .string (⟨#[]⟩ : ByteArray), .int .i64 0, .int .i64 0]) (t := 39) ?hr ?_; (case hd => rfl); (case hg => rfl); (case hr => first | (go_simp; done) | (go_simp; rfl)); intro gb249 hg w10 hbox hb; have n0_ := qas (below_step (by repeat (first | (with_reducible first | exact HB.out | apply qbA | apply qbB | apply qbC) | exact HB.out)) hb); have n1_ := qas (hbox); have n2_ := qas ((by rw [hg]; exact (below_size (by repeat (first | (with_reducible first | exact HB.out | apply qbA | apply qbB | apply qbC) | exact HB.out))) : w.heap.size ≤ gb249)); have n3_ := qas ((by rw [hg]; exact (below_size (by repeat (first | (with_reducible first | exact HB.out | apply qbA | apply qbB | apply qbC) | exact HB.out))) : w.heap.size ≤ gb249)); clear HB; have HB := n0_; have BK249 := n1_; have GW249 := n2_; have GE249 := n3_; clear n0_ n1_ n2_ n3_; clear hb hbox hg) | ((with_reducible refine gate_dst (N := 10) rfl ?_); refine Kd.R_make (Kd.int .i64) _ 3 rfl (N := 10) rfl 37 _ _ rfl 4 rfl rfl Tryd.underlying37 (.int .i64 0) 8 info3 rfl (by decide) (by omega) 0 (ok := fun _ => True) (okp := fun _ => True) rfl (fun _ hk => hk) trivial (by omega) (by omega) (Below.refl _ _) (Nat.le_refl _) ?_; intro v251 w11 ho12 hb hg_ hnew_; clear hg_ hnew_; (first | rw [← Ny250.out] at ho12 | (simp only [Int.reduceToNat] at ho12; rw [← Ny250.out] at ho12)); have n0_ := qas (Kd.R_lower ho12 (below_size (by repeat (first | (with_reducible first | exact HB.out | apply qbA | apply qbB | apply qbC | refine below_set ?_ GE249.out) | exact HB.out)))); have n1_ := qas (blk_below (g := gb249) (o := .cells #[.string (⟨#[]⟩ : ByteArray), .bool false, .slice none 0 0, .int .i64 0, .int .i64 0, .int .i64 0, .string (⟨#[]⟩ : ByteArray), .int .i64 0, .int .i64 0] 39 (0, 0)) (by (with_reducible repeat (first | refine qkA ?_ _ | refine qkB ?_ | refine qkC ?_ _)); exact BK249.out) hb); have n2_ := qas (below_step (by repeat (first | (with_reducible first | exact HB.out | apply qbA | apply qbB | apply qbC | refine below_set ?_ GE249.out) | exact HB.out)) hb); clear BK249; clear HB; have HO252 := n0_; have BK249 := n1_; have HB := n2_; clear n0_ n1_ n2_; clear hb ho12; have p8 : 0 ≤ (a1 : Int) := qde (by first | (with_reducible assumption) | assumption); have q8 : (a1 : Int) < ((y250.length : Int) : Int) := qde (by first | (with_reducible assumption) | assumption); obtain ⟨go8, co8, eo8, gb8, gl8, cl8, HG8⟩ := Kd.R_form HO252.out (by omega); (first | cases eo8 | (injection eo8 with ea_ en_ ec_; (first | subst ea_ | (injection ea_ with ea_; subst ea_)); subst ec_; clear en_)); have GB8 := qas gb8; have GG8 := qas HG8; clear gb8 gl8 HG8; obtain ⟨hx8_0, hf8_0⟩ := Kd.R_celln 0 HO252.out (a1 : Int) p8 q8; replace p8 := eq_true p8; replace q8 := eq_true q8; obtain ⟨hy13_, hz13_⟩ := Kd.R_celln 0 HO252.out (a1 : Int) (qde (by first | (with_reducible assumption) | assumption)) (qde (by first | (with_reducible assumption) | assumption)); have HP13 := Kd.R_putg HO252.out (a1 : Int) a2) | ((with_reducible refine gate_store (t := 3) (p := 14) rfl ?_); refine store_event (t := 3) (p := 14) (v := ?vo_w14) (w1 := (w11.setCell ⟨go8, (a1 : Int).toNat, none⟩ (.int .i64 a2))) ?hg ?ho ?hn ?hr ?_; (case ho => rfl); (case hg => rfl); (case hn => rfl); (case hr => first | (go_simp; done) | (go_simp; rfl)); intro w14 hw; have hg : w11.grownBy w14 (some go8) := (by rw [hw]; exact HP13.2); have hp_ : Kd.R (Kd.int .i64) 3 w14 w.heap.size (fun _ => True) (.slice (some ⟨go8, 0, none⟩) y250.length co8) y253 := (by rw [hw, Ny253.out]; exact HP13.1); clear HP13; have n0_ := qas (blk_grown (g := gb249) (o := .cells #[.string (⟨#[]⟩ : ByteArray), .bool false, .slice none 0 0, .int .i64 0, .int .i64 0, .int .i64 0, .string (⟨#[]⟩ : ByteArray), .int .i64 0, .int .i64 0] 39 (0, 0)) (by (with_reducible repeat (first | refine qkA ?_ _ | refine qkB ?_ | refine qkC ?_ _)); exact BK249.out) hg (Kd.R_ne HO252.out BK249.out (by decide))); have n1_ := qas (hp_); have n2_ := qas ((by rw [hw]; exact below_set (HB.out) GB8.out : Below w.heap.size w w14)); clear BK249; clear HO252; clear HB; have BK249 := n0_; have HO252 := n1_; have HB := n2_; clear n0_ n1_ n2_; clear hg hw hp_) | ((with_reducible refine gate_callee (f := 60) rfl ?_); refine goesL_ (some 23) rfl rfl Tryd.func60 (by kernel_rfl) rfl #[.string a3] rfl (by (try simp only [List.map_toArray, List.map_cons, List.map_nil]); first | done | rfl | (simp only [List.length_drop, List.length_take]; rfl)) ?_; (with_reducible refine (ps_Crc.calls k a3 t254 _ A9.out).mono ?_); rintro e w' ⟨rfl, ⟨nd, rfl⟩⟩; refine ⟨_, rfl, ?_⟩; (try (rw [drewN_self w14]; generalize hq_ : World.drewN w14 _ = w14; have n0_ : Aside0 (Kd.R (Kd.int .i64) 3 w14 w.heap.size (fun _ => True) (.slice (some ⟨go8, 0, none⟩) y250.length co8) y253) := ⟨by rw [← hq_]; exact (by (with_reducible repeat (first | apply Kd.R_alloc | apply Kd.R_drewN | apply Kd.R_drew)); exact HO252.out)⟩; have n1_ : Aside0 (w14.heap[gb249]? = some (.cells #[.string (⟨#[]⟩ : ByteArray), .bool false, .slice none 0 0, .int .i64 0, .int .i64 0, .int .i64 0, .string (⟨#[]⟩ : ByteArray), .int .i64 0, .int .i64 0] 39 (0, 0))) := ⟨by rw [← hq_]; exact (by (with_reducible repeat (first | refine qkA ?_ _ | refine qkB ?_ | refine qkC ?_ _)); exact BK249.out)⟩; have n2_ : Aside0 (Below w.heap.size w w14) := ⟨by rw [← hq_]; exact (by repeat (first | (with_reducible first | exact HB.out | apply qbA | apply qbB | apply qbC | refine below_set ?_ GE249.out) | exact HB.out))⟩; clear HO252 BK249 HB hq_; have HO252 := n0_; have BK249 := n1_; have HB := n2_; clear n0_ n1_ n2_)); have hcz15_0 : w14.cell? ⟨gb249, 0, none⟩ = some (.string (⟨#[]⟩ : ByteArray)) := (blk_cell BK249.out 0).trans rfl; have hcz15_1 : w14.cell? ⟨gb249, 1, none⟩ = some (.bool false) := (blk_cell BK249.out 1).trans rfl; have hcz15_2 : w14.cell? ⟨gb249, 2, none⟩ = some (.slice none 0 0) := (blk_cell BK249.out 2).trans rfl; have hcz15_3 : w14.cell? ⟨gb249, 3, none⟩ = some (.int .i64 0) := (blk_cell BK249.out 3).trans rfl; have hcz15_4 : w14.cell? ⟨gb249, 4, none⟩ = some (.int .i64 0) := (blk_cell BK249.out 4).trans rfl; have hcz15_5 : w14.cell? ⟨gb249, 5, none⟩ = some (.int .i64 0) := (blk_cell BK249.out 5).trans rfl; have hcz15_6 : w14.cell? ⟨gb249, 6, none⟩ = some (.string (⟨#[]⟩ : ByteArray)) := (blk_cell BK249.out 6).trans rfl; have hcz15_7 : w14.cell? ⟨gb249, 7, none⟩ = some (.int .i64 0) := (blk_cell BK249.out 7).trans rfl; have hcz15_8 : w14.cell? ⟨gb249, 8, none⟩ = some (.int .i64 0) := (blk_cell BK249.out 8).trans rfl; have hfz15_0 := blk_frozen BK249.out 0; have hfz15_1 := blk_frozen BK249.out 1; have hfz15_2 := blk_frozen BK249.out 2; have hfz15_3 := blk_frozen BK249.out 3; have hfz15_4 := blk_frozen BK249.out 4; have hfz15_5 := blk_frozen BK249.out 5; have hfz15_6 := blk_frozen BK249.out 6; have hfz15_7 := blk_frozen BK249.out 7; have hfz15_8 := blk_frozen BK249.out 8))
 refine bodyPost_ret (results_cell_row rfl _ _ gb249 39 #[.string a0, .bool false, .slice (some ⟨go8, 0, none⟩) y250.length co8, .int .i64 a2, .int .i64 a1, .int .i64 0, .string a3, .int .i64 (a3.size : Int), .int .i64 t254] (0, 0) _ rfl (by (with_reducible repeat (first | refine qkA ?_ _ | refine qkB ?_ | refine qkC ?_ _)); refine blk_put (cs := #[.string a0, .bool false, .slice (some ⟨go8, 0, none⟩) y250.length co8, .int .i64 a2, .int .i64 a1, .int .i64 0, .string a3, .int .i64 (a3.size : Int), .int .i64 0]) ?_ 8 _ rfl; (with_reducible repeat (first | refine qkA ?_ _ | refine qkB ?_ | refine qkC ?_ _)); refine blk_put (cs := #[.string a0, .bool false, .slice (some ⟨go8, 0, none⟩) y250.length co8, .int .i64 a2, .int .i64 a1, .int .i64 0, .string a3, .int .i64 0, .int .i64 0]) ?_ 7 _ rfl; (with_reducible repeat (first | refine qkA ?_ _ | refine qkB ?_ | refine qkC ?_ _)); refine blk_put (cs := #[.string a0, .bool false, .slice (some ⟨go8, 0, none⟩) y250.length co8, .int .i64 a2, .int .i64 a1, .int .i64 0, .string (⟨#[]⟩ : ByteArray), .int .i64 0, .int .i64 0]) ?_ 6 _ rfl; (with_reducible repeat (first | refine qkA ?_ _ | refine qkB ?_ | refine qkC ?_ _)); refine blk_put (cs := #[.string a0, .bool false, .slice (some ⟨go8, 0, none⟩) y250.length co8, .int .i64 a2, .int .i64 a1, .int .i64 0, .string (⟨#[]⟩ : ByteArray), .int .i64 0, .int .i64 0]) ?_ 5 _ rfl; (with_reducible repeat (first | refine qkA ?_ _ | refine qkB ?_ | refine qkC ?_ _)); refine blk_put (cs := #[.string a0, .bool false, .slice (some ⟨go8, 0, none⟩) y250.length co8, .int .i64 a2, .int .i64 0, .int .i64 0, .string (⟨#[]⟩ : ByteArray), .int .i64 0, .int .i64 0]) ?_ 4 _ rfl; (with_reducible repeat (first | refine qkA ?_ _ | refine qkB ?_ | refine qkC ?_ _)); refine blk_put (cs := #[.string a0, .bool false, .slice (some ⟨go8, 0, none⟩) y250.length co8, .int .i64 0, .int .i64 0, .int .i64 0, .string (⟨#[]⟩ : ByteArray), .int .i64 0, .int .i64 0]) ?_ 3 _ rfl; (with_reducible repeat (first | refine qkA ?_ _ | refine qkB ?_ | refine qkC ?_ _)); refine blk_put (cs := #[.string a0, .bool false, .slice none 0 0, .int .i64 0, .int .i64 0, .int .i64 0, .string (⟨#[]⟩ : ByteArray), .int .i64 0, .int .i64 0]) ?_ 2 _ rfl; (with_reducible repeat (first | refine qkA ?_ _ | refine qkB ?_ | refine qkC ?_ _)); refine blk_put (cs := #[.string a0, .bool false, .slice none 0 0, .int .i64 0, .int .i64 0, .int .i64 0, .string (⟨#[]⟩ : ByteArray), .int .i64 0, .int .i64 0]) ?_ 1 _ rfl; (with_reducible repeat (first | refine qkA ?_ _ | refine qkB ?_ | refine qkC ?_ _)); refine blk_put (cs := #[.string (⟨#[]⟩ : ByteArray), .bool false, .slice none 0 0, .int .i64 0, .int .i64 0, .int .i64 0, .string (⟨#[]⟩ : ByteArray), .int .i64 0, .int .i64 0]) ?_ 0 _ rfl; (with_reducible repeat (first | refine qkA ?_ _ | refine qkB ?_ | refine qkC ?_ _)); exact BK249.out) Tryd.underlying39 rfl (by kernel_rfl)) rfl ?_
 exact ⟨_, by first | rfl | (simp [errW_none, errW_some] <;> rfl) | (simp [*, errW_none, errW_some] <;> rfl), by (with_reducible repeat (first | apply Kd.R_alloc | apply Kd.R_drewN | apply Kd.R_drew)); exact Kd.R_mono (Kd.R_far (p := ⟨gb249, 8, none⟩) (Kd.R_far (p := ⟨gb249, 7, none⟩) (Kd.R_far (p := ⟨gb249, 6, none⟩) (Kd.R_far (p := ⟨gb249, 5, none⟩) (Kd.R_far (p := ⟨gb249, 4, none⟩) (Kd.R_far (p := ⟨gb249, 3, none⟩) (Kd.R_far (p := ⟨gb249, 2, none⟩) (Kd.R_far (p := ⟨gb249, 1, none⟩) (Kd.R_far (p := ⟨gb249, 0, none⟩) (Kd.R_types HO252.out BK249.out (by decide)) (fun _ hk => hk.2) (.string a0)) (fun _ hk => hk.2) (.bool false)) (fun _ hk => hk.2) (.slice (some ⟨go8, 0, none⟩) y250.length co8)) (fun _ hk => hk.2) (.int .i64 a2)) (fun _ hk => hk.2) (.int .i64 a1)) (fun _ hk => hk.2) (.int .i64 0)) (fun _ hk => hk.2) (.string a3)) (fun _ hk => hk.2) (.int .i64 (a3.size : Int))) (fun _ hk => hk.2) (.int .i64 t254)) (fun _ hk => trivial), by repeat (first | (with_reducible first | exact HB.out | apply qbA | apply qbB | apply qbC | refine below_set ?_ GE249.out) | exact HB.out)⟩

/-! ### pn_awake: function 31 -/
def pn_awake.f (k : Nat)  : Option (Bool) := (pn_small.f k (⟨#[97]⟩ : ByteArray) 0 1 (⟨#[104, 105]⟩ : ByteArray)).bind fun bt255 => ((pn_small.f k (⟨#[98]⟩ : ByteArray) 2 5 (⟨#[]⟩ : ByteArray)).bind fun bt266 => ((some (([(⟨bt255.1, bt255.2.1, bt255.2.2.1, bt255.2.2.2.1, bt255.2.2.2.2.1, bt255.2.2.2.2.2.1, bt255.2.2.2.2.2.2.1, bt255.2.2.2.2.2.2.2.1, bt255.2.2.2.2.2.2.2.2⟩ : S39), (⟨bt266.1, bt266.2.1, bt266.2.2.1, bt266.2.2.2.1, bt266.2.2.2.2.1, bt266.2.2.2.2.2.1, bt266.2.2.2.2.2.2.1, bt266.2.2.2.2.2.2.2.1, bt266.2.2.2.2.2.2.2.2⟩ : S39)] : List (S39)) : List (S39))).bind fun y277 => ((zipput_Put.f y277).bind fun bt281 => ((zipget_Get.f k bt281.1).bind fun bt283 => (if bt281.1.size + 1 ≤ 9223372036854775807 then ((zipget_Get.f k (bt281.1 ++ (⟨#[120]⟩ : ByteArray))).bind fun bt288 => ((zipget_Get.f k (⟨#[]⟩ : ByteArray)).bind fun bt293 => ((pl_Num.f bt281.2).bind fun t298 => (if t298 = 0 then ((pl_SameFolder.f k y277 bt283.1).bind fun t299 => (if t299 = true then ((pl_Num.f bt283.2).bind fun t300 => (if t300 = 0 then ((pl_Num.f bt288.2).bind fun t301 => (if t301 = 1400 then ((pl_Num.f bt293.2).bind fun t302 => (some (t302 == 1400))) else (none))) else (none))) else (none))) else (none))))) else (none))))))
theorem pn_awake.mono : ∀ k, LeO (pn_awake.f k ) (pn_awake.f (k + 1) ) := by
 intro  k
 unfold pn_awake.f
 repeat' first
   | (with_reducible exact pl_SameFolder.mono _ _ _)
   | (with_reducible exact pn_small.mono _ _ _ _ _)
   | (with_reducible exact zipget_Get.mono _ _)
   | (with_reducible exact LeO.refl _)
   | (with_reducible exact LeO.none _)
   | (with_reducible refine LeO.ite ?_ ?_)
   | (with_reducible refine LeO.bind ?_ (fun _ => ?_))
   | exact pl_SameFolder.mono _ _ _
   | exact pn_small.mono _ _ _ _ _
   | exact zipget_Get.mono _ _
   | exact LeO.none _
   | refine LeO.ite ?_ ?_
   | refine LeO.bind ?_ (fun _ => ?_)
set_option maxHeartbeats 8000000 in
set_option maxRecDepth 100000 in
theorem pn_awake.calls (k : Nat)  (r : Bool) (w : World) (h : pn_awake.f k  = some r) :
  Calls Tryd.prog 31 #[] w fun e w' => e = .returned (.bool r) ∧ Below w.heap.size w w' := by
 have hu24 := Tryd.underlying24
 have HB := qas (Below.refl w.heap.size w)
 have H : ((pn_small.f k (⟨#[97]⟩ : ByteArray) 0 1 (⟨#[104, 105]⟩ : ByteArray)).bind fun bt255 => ((pn_small.f k (⟨#[98]⟩ : ByteArray) 2 5 (⟨#[]⟩ : ByteArray)).bind fun bt266 => ((some (([(⟨bt255.1, bt255.2.1, bt255.2.2.1, bt255.2.2.2.1, bt255.2.2.2.2.1, bt255.2.2.2.2.2.1, bt255.2.2.2.2.2.2.1, bt255.2.2.2.2.2.2.2.1, bt255.2.2.2.2.2.2.2.2⟩ : S39), (⟨bt266.1, bt266.2.1, bt266.2.2.1, bt266.2.2.2.1, bt266.2.2.2.2.1, bt266.2.2.2.2.2.1, bt266.2.2.2.2.2.2.1, bt266.2.2.2.2.2.2.2.1, bt266.2.2.2.2.2.2.2.2⟩ : S39)] : List (S39)) : List (S39))).bind fun y277 => ((zipput_Put.f y277).bind fun bt281 => ((zipget_Get.f k bt281.1).bind fun bt283 => (if bt281.1.size + 1 ≤ 9223372036854775807 then ((zipget_Get.f k (bt281.1 ++ (⟨#[120]⟩ : ByteArray))).bind fun bt288 => ((zipget_Get.f k (⟨#[]⟩ : ByteArray)).bind fun bt293 => ((pl_Num.f bt281.2).bind fun t298 => (if t298 = 0 then ((pl_SameFolder.f k y277 bt283.1).bind fun t299 => (if t299 = true then ((pl_Num.f bt283.2).bind fun t300 => (if t300 = 0 then ((pl_Num.f bt288.2).bind fun t301 => (if t301 = 1400 then ((pl_Num.f bt293.2).bind fun t302 => (some (t302 == 1400))) else (none))) else (none))) else (none))) else (none))))) else (none))))))) = some r := h
 clear h
 replace H := Option.bind_eq_some_iff.mp H
 obtain ⟨⟨t255, t256, t257, t260, t261, t262, t263, t264, t265⟩, A10, H⟩ := H
 replace H : ((pn_small.f k (⟨#[98]⟩ : ByteArray) 2 5 (⟨#[]⟩ : ByteArray)).bind fun bt266 => ((some (([(⟨t255, t256, t257, t260, t261, t262, t263, t264, t265⟩ : S39), (⟨bt266.1, bt266.2.1, bt266.2.2.1, bt266.2.2.2.1, bt266.2.2.2.2.1, bt266.2.2.2.2.2.1, bt266.2.2.2.2.2.2.1, bt266.2.2.2.2.2.2.2.1, bt266.2.2.2.2.2.2.2.2⟩ : S39)] : List (S39)) : List (S39))).bind fun y277 => ((zipput_Put.f y277).bind fun bt281 => ((zipget_Get.f k bt281.1).bind fun bt283 => (if bt281.1.size + 1 ≤ 9223372036854775807 then ((zipget_Get.f k (bt281.1 ++ (⟨#[120]⟩ : ByteArray))).bind fun bt288 => ((zipget_Get.f k (⟨#[]⟩ : ByteArray)).bind fun bt293 => ((pl_Num.f bt281.2).bind fun t298 => (if t298 = 0 then ((pl_SameFolder.f k y277 bt283.1).bind fun t299 => (if t299 = true then ((pl_Num.f bt283.2).bind fun t300 => (if t300 = 0 then ((pl_Num.f bt288.2).bind fun t301 => (if t301 = 1400 then ((pl_Num.f bt293.2).bind fun t302 => (some (t302 == 1400))) else (none))) else (none))) else (none))) else (none))))) else (none)))))) = some r := H
 have A1 := qas A10
 clear A10
 replace H := Option.bind_eq_some_iff.mp H
 obtain ⟨⟨t266, t267, t268, t271, t272, t273, t274, t275, t276⟩, A20, H⟩ := H
 replace H : ((some (([(⟨t255, t256, t257, t260, t261, t262, t263, t264, t265⟩ : S39), (⟨t266, t267, t268, t271, t272, t273, t274, t275, t276⟩ : S39)] : List (S39)) : List (S39))).bind fun y277 => ((zipput_Put.f y277).bind fun bt281 => ((zipget_Get.f k bt281.1).bind fun bt283 => (if bt281.1.size + 1 ≤ 9223372036854775807 then ((zipget_Get.f k (bt281.1 ++ (⟨#[120]⟩ : ByteArray))).bind fun bt288 => ((zipget_Get.f k (⟨#[]⟩ : ByteArray)).bind fun bt293 => ((pl_Num.f bt281.2).bind fun t298 => (if t298 = 0 then ((pl_SameFolder.f k y277 bt283.1).bind fun t299 => (if t299 = true then ((pl_Num.f bt283.2).bind fun t300 => (if t300 = 0 then ((pl_Num.f bt288.2).bind fun t301 => (if t301 = 1400 then ((pl_Num.f bt293.2).bind fun t302 => (some (t302 == 1400))) else (none))) else (none))) else (none))) else (none))))) else (none))))) = some r := H
 have A2 := qas A20
 clear A20
 obtain ⟨y277, hy277⟩ : ∃ y_ : List (S39), y_ = (([(⟨t255, t256, t257, t260, t261, t262, t263, t264, t265⟩ : S39), (⟨t266, t267, t268, t271, t272, t273, t274, t275, t276⟩ : S39)] : List (S39))) := ⟨_, rfl⟩
 replace H : ((zipput_Put.f y277).bind fun bt281 => ((zipget_Get.f k bt281.1).bind fun bt283 => (if bt281.1.size + 1 ≤ 9223372036854775807 then ((zipget_Get.f k (bt281.1 ++ (⟨#[120]⟩ : ByteArray))).bind fun bt288 => ((zipget_Get.f k (⟨#[]⟩ : ByteArray)).bind fun bt293 => ((pl_Num.f bt281.2).bind fun t298 => (if t298 = 0 then ((pl_SameFolder.f k y277 bt283.1).bind fun t299 => (if t299 = true then ((pl_Num.f bt283.2).bind fun t300 => (if t300 = 0 then ((pl_Num.f bt288.2).bind fun t301 => (if t301 = 1400 then ((pl_Num.f bt293.2).bind fun t302 => (some (t302 == 1400))) else (none))) else (none))) else (none))) else (none))))) else (none)))) = some r := by first | (rw [hy277]; with_reducible exact H) | (have H2_ := (Option.bind_some _ _).symm.trans H; rw [hy277]; with_reducible exact H2_) | (have H2_ := (Option.bind_some _ _).symm.trans H; with_reducible exact H2_) | with_reducible exact H | (rw [hy277]; exact H) | exact H
 have Ny277 := qas hy277
 clear hy277
 replace H := Option.bind_eq_some_iff.mp H
 obtain ⟨⟨t281, t282⟩, A30, H⟩ := H
 replace H : ((zipget_Get.f k t281).bind fun bt283 => (if t281.size + 1 ≤ 9223372036854775807 then ((zipget_Get.f k (t281 ++ (⟨#[120]⟩ : ByteArray))).bind fun bt288 => ((zipget_Get.f k (⟨#[]⟩ : ByteArray)).bind fun bt293 => ((pl_Num.f t282).bind fun t298 => (if t298 = 0 then ((pl_SameFolder.f k y277 bt283.1).bind fun t299 => (if t299 = true then ((pl_Num.f bt283.2).bind fun t300 => (if t300 = 0 then ((pl_Num.f bt288.2).bind fun t301 => (if t301 = 1400 then ((pl_Num.f bt293.2).bind fun t302 => (some (t302 == 1400))) else (none))) else (none))) else (none))) else (none))))) else (none))) = some r := H
 have A3 := qas A30
 clear A30
 replace H := Option.bind_eq_some_iff.mp H
 obtain ⟨⟨t283, t286⟩, A40, H⟩ := H
 replace H : (if t281.size + 1 ≤ 9223372036854775807 then ((zipget_Get.f k (t281 ++ (⟨#[120]⟩ : ByteArray))).bind fun bt288 => ((zipget_Get.f k (⟨#[]⟩ : ByteArray)).bind fun bt293 => ((pl_Num.f t282).bind fun t298 => (if t298 = 0 then ((pl_SameFolder.f k y277 t283).bind fun t299 => (if t299 = true then ((pl_Num.f t286).bind fun t300 => (if t300 = 0 then ((pl_Num.f bt288.2).bind fun t301 => (if t301 = 1400 then ((pl_Num.f bt293.2).bind fun t302 => (some (t302 == 1400))) else (none))) else (none))) else (none))) else (none))))) else (none)) = some r := H
 have A4 := qas A40
 clear A40
 by_cases c5 : t281.size + 1 ≤ 9223372036854775807
 rotate_left
 ·rw [if_neg c5] at H
  exact absurd H (by simp)
 rw [if_pos c5] at H
 have c5b0 := eq_true c5
 have c5b1 : decide (t281.size + 1 ≤ 9223372036854775807) = true := decide_eq_true c5
 try have c5b2 : (9223372036854775807 < t281.size + 1) = False := eq_false (Nat.not_lt.2 c5)
 replace H := Option.bind_eq_some_iff.mp H
 obtain ⟨⟨t288, t291⟩, A60, H⟩ := H
 replace H : ((zipget_Get.f k (⟨#[]⟩ : ByteArray)).bind fun bt293 => ((pl_Num.f t282).bind fun t298 => (if t298 = 0 then ((pl_SameFolder.f k y277 t283).bind fun t299 => (if t299 = true then ((pl_Num.f t286).bind fun t300 => (if t300 = 0 then ((pl_Num.f t291).bind fun t301 => (if t301 = 1400 then ((pl_Num.f bt293.2).bind fun t302 => (some (t302 == 1400))) else (none))) else (none))) else (none))) else (none)))) = some r := H
 have A6 := qas A60
 clear A60
 replace H := Option.bind_eq_some_iff.mp H
 obtain ⟨⟨t293, t296⟩, A70, H⟩ := H
 replace H : ((pl_Num.f t282).bind fun t298 => (if t298 = 0 then ((pl_SameFolder.f k y277 t283).bind fun t299 => (if t299 = true then ((pl_Num.f t286).bind fun t300 => (if t300 = 0 then ((pl_Num.f t291).bind fun t301 => (if t301 = 1400 then ((pl_Num.f t296).bind fun t302 => (some (t302 == 1400))) else (none))) else (none))) else (none))) else (none))) = some r := H
 have A7 := qas A70
 clear A70
 replace H := Option.bind_eq_some_iff.mp H
 obtain ⟨t298, A80, H⟩ := H
 replace H : (if t298 = 0 then ((pl_SameFolder.f k y277 t283).bind fun t299 => (if t299 = true then ((pl_Num.f t286).bind fun t300 => (if t300 = 0 then ((pl_Num.f t291).bind fun t301 => (if t301 = 1400 then ((pl_Num.f t296).bind fun t302 => (some (t302 == 1400))) else (none))) else (none))) else (none))) else (none)) = some r := H
 have A8 := qas A80
 clear A80
 by_cases c9 : t298 = 0
 rotate_left
 ·rw [if_neg c9] at H
  exact absurd H (by simp)
 rw [if_pos c9] at H
 have c9b0 : (t298 == 0) = true := beq_iff_eq.mpr c9
 have c9b1 : (t298 != 0) = false := bne_eq_false_iff_eq.mpr c9
 clear c9
 replace H := Option.bind_eq_some_iff.mp H
 obtain ⟨t299, A100, H⟩ := H
 replace H : (if t299 = true then ((pl_Num.f t286).bind fun t300 => (if t300 = 0 then ((pl_Num.f t291).bind fun t301 => (if t301 = 1400 then ((pl_Num.f t296).bind fun t302 => (some (t302 == 1400))) else (none))) else (none))) else (none)) = some r := H
 have A10 := qas A100
 clear A100
 by_cases c11 : t299 = true
 rotate_left
 ·replace c11 := Bool.eq_false_iff.mpr c11
  subst c11
  have H1 : (none) = some r := by rw [if_neg (show ¬ (false = true) by decide)] at H; exact H
  clear H
  have H := H1
  clear H1
  exact absurd H (by simp)
 subst c11
 have H1 : ((pl_Num.f t286).bind fun t300 => (if t300 = 0 then ((pl_Num.f t291).bind fun t301 => (if t301 = 1400 then ((pl_Num.f t296).bind fun t302 => (some (t302 == 1400))) else (none))) else (none))) = some r := by rw [if_pos rfl] at H; exact H
 clear H
 have H := H1
 clear H1
 replace H := Option.bind_eq_some_iff.mp H
 obtain ⟨t300, A120, H⟩ := H
 replace H : (if t300 = 0 then ((pl_Num.f t291).bind fun t301 => (if t301 = 1400 then ((pl_Num.f t296).bind fun t302 => (some (t302 == 1400))) else (none))) else (none)) = some r := H
 have A12 := qas A120
 clear A120
 by_cases c13 : t300 = 0
 rotate_left
 ·rw [if_neg c13] at H
  exact absurd H (by simp)
 rw [if_pos c13] at H
 have c13b0 : (t300 == 0) = true := beq_iff_eq.mpr c13
 have c13b1 : (t300 != 0) = false := bne_eq_false_iff_eq.mpr c13
 clear c13
 replace H := Option.bind_eq_some_iff.mp H
 obtain ⟨t301, A140, H⟩ := H
 replace H : (if t301 = 1400 then ((pl_Num.f t296).bind fun t302 => (some (t302 == 1400))) else (none)) = some r := H
 have A14 := qas A140
 clear A140
 by_cases c15 : t301 = 1400
 rotate_left
 ·rw [if_neg c15] at H
  exact absurd H (by simp)
 rw [if_pos c15] at H
 have c15b0 : (t301 == 1400) = true := beq_iff_eq.mpr c15
 have c15b1 : (t301 != 1400) = false := bne_eq_false_iff_eq.mpr c15
 clear c15
 replace H := Option.bind_eq_some_iff.mp H
 obtain ⟨t302, A160, H⟩ := H
 replace H : (some (t302 == 1400)) = some r := H
 have A16 := qas A160
 clear A160
 obtain rfl := Option.some.inj H
 go_enter Tryd.func31, Tryd.ntmps31
 go_wp2_with (first | ((with_reducible refine gate_callee (f := 32) rfl ?_); refine goesL_ (some 10) rfl rfl Tryd.func32 (by kernel_rfl) rfl #[.string (⟨#[97]⟩ : ByteArray), .int .i64 0, .int .i64 1, .string (⟨#[104, 105]⟩ : ByteArray)] rfl (by (try simp only [List.map_toArray, List.map_cons, List.map_nil]); first | done | rfl | (simp only [List.length_drop, List.length_take]; rfl)) ?_; (with_reducible refine (pn_small.calls k (⟨#[97]⟩ : ByteArray) 0 1 (⟨#[104, 105]⟩ : ByteArray) t255 t256 t257 t260 t261 t262 t263 t264 t265 _ A1.out).mono ?_); rintro e w17 ⟨v258, rfl, ho0, hb⟩; refine ⟨_, rfl, ?_⟩; have n0_ := qas (Kd.R_lower ho0 (below_size (by repeat (first | (with_reducible first | exact HB.out | apply qbA | apply qbB | apply qbC) | exact HB.out)))); have n1_ := qas (below_step (by repeat (first | (with_reducible first | exact HB.out | apply qbA | apply qbB | apply qbC) | exact HB.out)) hb); clear HB; have HO259 := n0_; have HB := n1_; clear n0_ n1_; (try clear hb); (try clear hb2); (try clear hk); (try clear hi); (try clear ho0)) | ((with_reducible refine gate_callee (f := 32) rfl ?_); refine goesL_ (some 11) rfl rfl Tryd.func32 (by kernel_rfl) rfl #[.string (⟨#[98]⟩ : ByteArray), .int .i64 2, .int .i64 5, .string (⟨#[]⟩ : ByteArray)] rfl (by (try simp only [List.map_toArray, List.map_cons, List.map_nil]); first | done | rfl | (simp only [List.length_drop, List.length_take]; rfl)) ?_; (with_reducible refine (pn_small.calls k (⟨#[98]⟩ : ByteArray) 2 5 (⟨#[]⟩ : ByteArray) t266 t267 t268 t271 t272 t273 t274 t275 t276 _ A2.out).mono ?_); rintro e w18 ⟨v269, rfl, ho0, hb⟩; refine ⟨_, rfl, ?_⟩; have n0_ := qas (Kd.R_elder' (by (with_reducible repeat (first | apply Kd.R_alloc | apply Kd.R_drewN | apply Kd.R_drew)); exact HO259.out) (Kd.R_base ho0) hb); have n1_ := qas (Kd.R_lower (Kd.R_new' ho0 (Kd.R_lt (by (with_reducible repeat (first | apply Kd.R_alloc | apply Kd.R_drewN | apply Kd.R_drew)); exact HO259.out))) (below_size (by repeat (first | (with_reducible first | exact HB.out | apply qbA | apply qbB | apply qbC) | exact HB.out)))); have n2_ := qas (below_step (by repeat (first | (with_reducible first | exact HB.out | apply qbA | apply qbB | apply qbC) | exact HB.out)) hb); clear HO259; clear HB; have HO259 := n0_; have HO270 := n1_; have HB := n2_; clear n0_ n1_ n2_; (try clear hb); (try clear hb2); (try clear hk); (try clear hi); (try clear ho0); obtain ⟨Ao19, co19, eo19⟩ := Kd.R_slice HO259.out; subst eo19; obtain ⟨Ao20, co20, eo20⟩ := Kd.R_slice HO270.out; subst eo20) | ((with_reducible refine gate_dst (N := 12) rfl ?_); refine Kd.N_lit k39 _ 39 ?hg (N' := 12) ?hd (xs := ([(⟨t255, t256, t257, t260, t261, t262, t263, t264, t265⟩ : S39), (⟨t266, t267, t268, t271, t272, t273, t274, t275, t276⟩ : S39)] : List (S39))) (inner := [.string t255, .bool t256, .slice Ao19 t257.length co19, .int .i64 t260, .int .i64 t261, .int .i64 t262, .string t263, .int .i64 t264, .int .i64 t265, .string t266, .bool t267, .slice Ao20 t268.length co20, .int .i64 t271, .int .i64 t272, .int .i64 t273, .string t274, .int .i64 t275, .int .i64 t276]) (ok := (fun _ => True)) (okp := (fun _ => True)) ?hr ?hp (fun _ hk => hk) ((show ∀ k_, w18.heap.size ≤ k_ → (fun _ => True) k_ from fun k_ hk => trivial) _ (Nat.le_refl _)) (Below.refl _ _) (Nat.le_refl _) (by simp) ?_; (case hd => rfl); (case hg => rfl); (case hr => first | (go_simp; done) | (go_simp; rfl)); (case hp => exact (Reps.c9 (show Kd.FK k39 _ _ (⟨t255, t256, t257, t260, t261, t262, t263, t264, t265⟩ : S39) [.string t255, .bool t256, .slice Ao19 t257.length co19, .int .i64 t260, .int .i64 t261, .int .i64 t262, .string t263, .int .i64 t264, .int .i64 t265] from (k39_mkF _ _ (⟨t255, t256, t257, t260, t261, t262, t263, t264, t265⟩ : S39) (Kd.R_reads' (Kd.R_mono (ok' := (fun _ => True)) (HO259.out) (fun k_ hk => trivial))).2.1 (Kd.R_F (Kd.R_mono (ok' := (fun _ => True)) (HO259.out) (fun k_ hk => trivial))))) (Reps.c9 (show Kd.FK k39 _ _ (⟨t266, t267, t268, t271, t272, t273, t274, t275, t276⟩ : S39) [.string t266, .bool t267, .slice Ao20 t268.length co20, .int .i64 t271, .int .i64 t272, .int .i64 t273, .string t274, .int .i64 t275, .int .i64 t276] from (k39_mkF _ _ (⟨t266, t267, t268, t271, t272, t273, t274, t275, t276⟩ : S39) (Kd.R_reads' (Kd.R_mono (ok' := (fun _ => True)) (HO270.out) (fun k_ hk => trivial))).2.1 (Kd.R_F (Kd.R_mono (ok' := (fun _ => True)) (HO270.out) (fun k_ hk => trivial))))) (Reps.none _ _)))); intro v278 w21 ho22 hb hg_ hnew_; clear hg_ hnew_; (first | rw [← Ny277.out] at ho22 | (simp only [Int.reduceToNat] at ho22; rw [← Ny277.out] at ho22)); have n0_ := qas (Kd.N_lower ho22 (below_size (by repeat (first | (with_reducible first | exact HB.out | apply qbA | apply qbB | apply qbC) | exact HB.out)))); have n1_ := qas (below_step (by repeat (first | (with_reducible first | exact HB.out | apply qbA | apply qbB | apply qbC) | exact HB.out)) hb); clear HB; clear HO259; clear HO270; have HO279 := n0_; have HB := n1_; clear n0_ n1_; clear hb ho22; obtain ⟨Ao23, co23, eo23⟩ := Kd.N_slice HO279.out; subst eo23) | ((with_reducible refine gate_dst (N := 1) rfl ?_); refine box_event ?hg (N := 1) ?hd (cs := #[.slice none 0 0]) (t := 24) ?hr ?_; (case hd => rfl); (case hg => rfl); (case hr => first | (go_simp; done) | (go_simp; rfl)); intro gb280 hg w24 hbox hb; have n0_ := qas (Kd.N_below (Kd.N_elderB (by (with_reducible repeat (first | apply Kd.N_alloc | apply Kd.N_drewN | apply Kd.N_drew)); exact HO279.out) gb280 (Nat.le_of_eq hg.symm)) hb); have n1_ := qas (below_step (by repeat (first | (with_reducible first | exact HB.out | apply qbA | apply qbB | apply qbC) | exact HB.out)) hb); have n2_ := qas (hbox); have n3_ := qas ((by rw [hg]; exact (below_size (by repeat (first | (with_reducible first | exact HB.out | apply qbA | apply qbB | apply qbC) | exact HB.out))) : w.heap.size ≤ gb280)); have n4_ := qas ((by rw [hg]; exact (below_size (by repeat (first | (with_reducible first | exact HB.out | apply qbA | apply qbB | apply qbC) | exact HB.out))) : w.heap.size ≤ gb280)); clear HO279; clear HB; have HO279 := n0_; have HB := n1_; have BK280 := n2_; have GW280 := n3_; have GE280 := n4_; clear n0_ n1_ n2_ n3_ n4_; clear hb hbox hg; have hcz25_0 : w24.cell? ⟨gb280, 0, none⟩ = some (.slice none 0 0) := (blk_cell BK280.out 0).trans rfl; have hfz25_0 := blk_frozen BK280.out 0) | ((with_reducible refine gate_callee (f := 17) rfl ?_); refine goesL_ (some 16) rfl rfl Tryd.func17 (by kernel_rfl) rfl #[.agg #[.slice Ao23 y277.length co23]] rfl (by (try simp only [List.map_toArray, List.map_cons, List.map_nil]); first | done | rfl | (simp only [List.length_drop, List.length_take]; rfl)) ?_; (with_reducible refine (zipput_Put.calls _ _ y277 t281 t282 _ ?side1 ?side2 A3.out).mono ?_); (case side1 => refine (Kd.N_reads' (e := 39) (base := w.heap.size) (ok := fun k_ => (True ∧ k_ ≠ gb280)) (n := y277.length) (c := co23) ?_).2.2; exact (by (with_reducible repeat (first | apply Kd.N_alloc | apply Kd.N_drewN | apply Kd.N_drew)); exact (Kd.N_mono (Kd.N_far (p := ⟨gb280, 0, none⟩) (Kd.N_mono HO279.out (fun k_ hk => (⟨hk, hk.2⟩ : _ ∧ k_ ≠ gb280))) (fun _ hk => hk.2) (.slice Ao23 y277.length co23)) (fun _ h_ => h_.1)))); (case side2 => exact (Kd.N_reads' HO279.out).2.1); rintro e w26 ⟨rfl, hb⟩; refine ⟨_, rfl, ?_⟩; have n0_ := qas (Kd.N_below (by (with_reducible repeat (first | apply Kd.N_alloc | apply Kd.N_drewN | apply Kd.N_drew)); exact (Kd.N_mono (Kd.N_far (p := ⟨gb280, 0, none⟩) (Kd.N_mono HO279.out (fun k_ hk => (⟨hk, hk.2⟩ : _ ∧ k_ ≠ gb280))) (fun _ hk => hk.2) (.slice Ao23 y277.length co23)) (fun _ h_ => h_.1))) hb); have n1_ := qas (blk_below (g := gb280) (o := .cells #[.slice Ao23 y277.length co23] 24 (0, 0)) (by (with_reducible repeat (first | refine qkA ?_ _ | refine qkB ?_ | refine qkC ?_ _)); refine blk_put (cs := #[.slice none 0 0]) ?_ 0 _ rfl; (with_reducible repeat (first | refine qkA ?_ _ | refine qkB ?_ | refine qkC ?_ _)); exact BK280.out) hb); have n2_ := qas (below_step (by repeat (first | (with_reducible first | exact HB.out | apply qbA | apply qbB | apply qbC | refine below_set ?_ GE280.out) | exact HB.out)) hb); clear HO279; clear BK280; clear HB; have HO279 := n0_; have BK280 := n1_; have HB := n2_; clear n0_ n1_ n2_; (try clear hb); (try clear hb2); (try clear hk); (try clear hi)) | ((with_reducible refine gate_callee (f := 28) rfl ?_); refine goesL_ (some 21) rfl rfl Tryd.func28 (by kernel_rfl) rfl #[.string t281] rfl (by (try simp only [List.map_toArray, List.map_cons, List.map_nil]); first | done | rfl | (simp only [List.length_drop, List.length_take]; rfl)) ?_; (with_reducible refine (zipget_Get.calls k t281 t283 t286 _ A4.out).mono ?_); rintro e w27 ⟨v284, rfl, ho0, hb⟩; refine ⟨_, rfl, ?_⟩; have n0_ := qas (Kd.N_elder' (by (with_reducible repeat (first | apply Kd.N_alloc | apply Kd.N_drewN | apply Kd.N_drew)); exact HO279.out) (Kd.S_base ho0) hb); have n1_ := qas (Kd.N_lower (Kd.N_mono (ok' := fun k_ => some k_ ≠ (.slice Ao23 y277.length co23 : Value).ownBlock ∧ k_ ≠ gb280) (Kd.S_N (Kd.S_bound ho0)) (fun k_ hk_ => ⟨(Kd.fresh' (Kd.N_lt (by (with_reducible repeat (first | apply Kd.N_alloc | apply Kd.N_drewN | apply Kd.N_drew)); exact HO279.out)) k_ hk_.2.1), (Kd.freshB (g := gb280) (o := .cells #[.slice Ao23 y277.length co23] 24 (0, 0)) (by (with_reducible repeat (first | refine qkA ?_ _ | refine qkB ?_ | refine qkC ?_ _)); exact BK280.out) k_ hk_.2.1)⟩)) (below_size (by repeat (first | (with_reducible first | exact HB.out | apply qbA | apply qbB | apply qbC | refine below_set ?_ GE280.out) | exact HB.out)))); have n2_ := qas (blk_below (g := gb280) (o := .cells #[.slice Ao23 y277.length co23] 24 (0, 0)) (by (with_reducible repeat (first | refine qkA ?_ _ | refine qkB ?_ | refine qkC ?_ _)); exact BK280.out) hb); have n3_ := qas (below_step (by repeat (first | (with_reducible first | exact HB.out | apply qbA | apply qbB | apply qbC | refine below_set ?_ GE280.out) | exact HB.out)) hb); clear HO279; clear BK280; clear HB; have HO279 := n0_; have HO285 := n1_; have BK280 := n2_; have HB := n3_; clear n0_ n1_ n2_ n3_; (try clear hb); (try clear hb2); (try clear hk); (try clear hi); (try clear ho0)) | ((with_reducible refine gate_dst (N := 4) rfl ?_); refine box_event ?hg (N := 4) ?hd (cs := #[.slice none 0 0]) (t := 24) ?hr ?_; (case hd => rfl); (case hg => rfl); (case hr => first | (go_simp; done) | (go_simp; rfl)); intro gb287 hg w28 hbox hb; have n0_ := qas (Kd.N_below (Kd.N_elderB (by (with_reducible repeat (first | apply Kd.N_alloc | apply Kd.N_drewN | apply Kd.N_drew)); exact HO279.out) gb287 (Nat.le_of_eq hg.symm)) hb); have n1_ := qas (Kd.N_below (Kd.N_elderB (by (with_reducible repeat (first | apply Kd.N_alloc | apply Kd.N_drewN | apply Kd.N_drew)); exact HO285.out) gb287 (Nat.le_of_eq hg.symm)) hb); have n2_ := qas (blk_below (g := gb280) (o := .cells #[.slice Ao23 y277.length co23] 24 (0, 0)) (by (with_reducible repeat (first | refine qkA ?_ _ | refine qkB ?_ | refine qkC ?_ _)); exact BK280.out) hb); have n3_ := qas (below_step (by repeat (first | (with_reducible first | exact HB.out | apply qbA | apply qbB | apply qbC | refine below_set ?_ GE280.out) | exact HB.out)) hb); have n4_ := qas (hbox); have n5_ := qas ((by rw [hg]; exact (below_size (by repeat (first | (with_reducible first | exact HB.out | apply qbA | apply qbB | apply qbC | refine below_set ?_ GE280.out) | exact HB.out))) : w.heap.size ≤ gb287)); have n6_ := qas ((by rw [hg]; exact (below_size (by repeat (first | (with_reducible first | exact HB.out | apply qbA | apply qbB | apply qbC | refine below_set ?_ GE280.out) | exact HB.out))) : w.heap.size ≤ gb287)); have n7_ := qas ((by rw [hg]; exact Nat.ne_of_lt (blk_lt (g := gb280) (o := .cells #[.slice Ao23 y277.length co23] 24 (0, 0)) (by (with_reducible repeat (first | refine qkA ?_ _ | refine qkB ?_ | refine qkC ?_ _)); exact BK280.out)) : gb280 ≠ gb287)); have n8_ := qas ((by rw [hg]; exact Nat.ne_of_gt (blk_lt (g := gb280) (o := .cells #[.slice Ao23 y277.length co23] 24 (0, 0)) (by (with_reducible repeat (first | refine qkA ?_ _ | refine qkB ?_ | refine qkC ?_ _)); exact BK280.out)) : gb287 ≠ gb280)); clear HO279; clear HO285; clear BK280; clear HB; have HO279 := n0_; have HO285 := n1_; have BK280 := n2_; have HB := n3_; have BK287 := n4_; have GW287 := n5_; have GE287 := n6_; have NB280_287 := n7_; have NB287_280 := n8_; clear n0_ n1_ n2_ n3_ n4_ n5_ n6_ n7_ n8_; clear hb hbox hg; obtain ⟨Ao29, co29, eo29⟩ := Kd.N_slice HO285.out; subst eo29; have hnb30 := NB287_280.out; have hnc30 := NB280_287.out; have hcz31_0 : w28.cell? ⟨gb287, 0, none⟩ = some (.slice none 0 0) := (blk_cell BK287.out 0).trans rfl; have hfz31_0 := blk_frozen BK287.out 0) | ((with_reducible refine gate_callee (f := 28) rfl ?_); refine goesL_ (some 27) rfl rfl Tryd.func28 (by kernel_rfl) rfl #[.string (t281 ++ (⟨#[120]⟩ : ByteArray))] rfl (by (try simp only [List.map_toArray, List.map_cons, List.map_nil]); first | done | rfl | (simp only [List.length_drop, List.length_take]; rfl)) ?_; (with_reducible refine (zipget_Get.calls k (t281 ++ (⟨#[120]⟩ : ByteArray)) t288 t291 _ A6.out).mono ?_); rintro e w32 ⟨v289, rfl, ho0, hb⟩; refine ⟨_, rfl, ?_⟩; have n0_ := qas (Kd.N_elder' (by (with_reducible repeat (first | apply Kd.N_alloc | apply Kd.N_drewN | apply Kd.N_drew)); exact (Kd.N_mono (Kd.N_far (p := ⟨gb287, 0, none⟩) (Kd.N_mono HO279.out (fun k_ hk => (⟨hk, hk.2⟩ : _ ∧ k_ ≠ gb287))) (fun _ hk => hk.2) (.slice Ao29 t283.length co29)) (fun _ h_ => h_.1))) (Kd.S_base ho0) hb); have n1_ := qas (Kd.N_elder' (by (with_reducible repeat (first | apply Kd.N_alloc | apply Kd.N_drewN | apply Kd.N_drew)); exact (Kd.N_mono (Kd.N_far (p := ⟨gb287, 0, none⟩) (Kd.N_mono HO285.out (fun k_ hk => (⟨hk, hk.2⟩ : _ ∧ k_ ≠ gb287))) (fun _ hk => hk.2) (.slice Ao29 t283.length co29)) (fun _ h_ => h_.1))) (Kd.S_base ho0) hb); have n2_ := qas (Kd.N_lower (Kd.N_mono (ok' := fun k_ => some k_ ≠ (.slice Ao23 y277.length co23 : Value).ownBlock ∧ some k_ ≠ (.slice Ao29 t283.length co29 : Value).ownBlock ∧ k_ ≠ gb280 ∧ k_ ≠ gb287) (Kd.S_N (Kd.S_bound ho0)) (fun k_ hk_ => ⟨(Kd.fresh' (Kd.N_lt (by (with_reducible repeat (first | apply Kd.N_alloc | apply Kd.N_drewN | apply Kd.N_drew)); exact (Kd.N_mono (Kd.N_far (p := ⟨gb287, 0, none⟩) (Kd.N_mono HO279.out (fun k_ hk => (⟨hk, hk.2⟩ : _ ∧ k_ ≠ gb287))) (fun _ hk => hk.2) (.slice Ao29 t283.length co29)) (fun _ h_ => h_.1)))) k_ hk_.2.1), (Kd.fresh' (Kd.N_lt (by (with_reducible repeat (first | apply Kd.N_alloc | apply Kd.N_drewN | apply Kd.N_drew)); exact (Kd.N_mono (Kd.N_far (p := ⟨gb287, 0, none⟩) (Kd.N_mono HO285.out (fun k_ hk => (⟨hk, hk.2⟩ : _ ∧ k_ ≠ gb287))) (fun _ hk => hk.2) (.slice Ao29 t283.length co29)) (fun _ h_ => h_.1)))) k_ hk_.2.1), (Kd.freshB (g := gb280) (o := .cells #[.slice Ao23 y277.length co23] 24 (0, 0)) (by (with_reducible repeat (first | refine qkA ?_ _ | refine qkB ?_ | refine qkC ?_ _)); refine blk_far ?_ NB280_287.out _; (with_reducible repeat (first | refine qkA ?_ _ | refine qkB ?_ | refine qkC ?_ _)); exact BK280.out) k_ hk_.2.1), (Kd.freshB (g := gb287) (o := .cells #[.slice Ao29 t283.length co29] 24 (0, 0)) (by (with_reducible repeat (first | refine qkA ?_ _ | refine qkB ?_ | refine qkC ?_ _)); refine blk_put (cs := #[.slice none 0 0]) ?_ 0 _ rfl; (with_reducible repeat (first | refine qkA ?_ _ | refine qkB ?_ | refine qkC ?_ _)); exact BK287.out) k_ hk_.2.1)⟩)) (below_size (by repeat (first | (with_reducible first | exact HB.out | apply qbA | apply qbB | apply qbC | refine below_set ?_ GE280.out | refine below_set ?_ GE287.out) | exact HB.out)))); have n3_ := qas (blk_below (g := gb280) (o := .cells #[.slice Ao23 y277.length co23] 24 (0, 0)) (by (with_reducible repeat (first | refine qkA ?_ _ | refine qkB ?_ | refine qkC ?_ _)); refine blk_far ?_ NB280_287.out _; (with_reducible repeat (first | refine qkA ?_ _ | refine qkB ?_ | refine qkC ?_ _)); exact BK280.out) hb); have n4_ := qas (blk_below (g := gb287) (o := .cells #[.slice Ao29 t283.length co29] 24 (0, 0)) (by (with_reducible repeat (first | refine qkA ?_ _ | refine qkB ?_ | refine qkC ?_ _)); refine blk_put (cs := #[.slice none 0 0]) ?_ 0 _ rfl; (with_reducible repeat (first | refine qkA ?_ _ | refine qkB ?_ | refine qkC ?_ _)); exact BK287.out) hb); have n5_ := qas (below_step (by repeat (first | (with_reducible first | exact HB.out | apply qbA | apply qbB | apply qbC | refine below_set ?_ GE280.out | refine below_set ?_ GE287.out) | exact HB.out)) hb); clear HO279; clear HO285; clear BK280; clear BK287; clear HB; have HO279 := n0_; have HO285 := n1_; have HO290 := n2_; have BK280 := n3_; have BK287 := n4_; have HB := n5_; clear n0_ n1_ n2_ n3_ n4_ n5_; (try clear hb); (try clear hb2); (try clear hk); (try clear hi); (try clear ho0)) | ((with_reducible refine gate_dst (N := 6) rfl ?_); refine box_event ?hg (N := 6) ?hd (cs := #[.slice none 0 0]) (t := 24) ?hr ?_; (case hd => rfl); (case hg => rfl); (case hr => first | (go_simp; done) | (go_simp; rfl)); intro gb292 hg w33 hbox hb; have n0_ := qas (Kd.N_below (Kd.N_elderB (by (with_reducible repeat (first | apply Kd.N_alloc | apply Kd.N_drewN | apply Kd.N_drew)); exact HO279.out) gb292 (Nat.le_of_eq hg.symm)) hb); have n1_ := qas (Kd.N_below (Kd.N_elderB (by (with_reducible repeat (first | apply Kd.N_alloc | apply Kd.N_drewN | apply Kd.N_drew)); exact HO285.out) gb292 (Nat.le_of_eq hg.symm)) hb); have n2_ := qas (Kd.N_below (Kd.N_elderB (by (with_reducible repeat (first | apply Kd.N_alloc | apply Kd.N_drewN | apply Kd.N_drew)); exact HO290.out) gb292 (Nat.le_of_eq hg.symm)) hb); have n3_ := qas (blk_below (g := gb280) (o := .cells #[.slice Ao23 y277.length co23] 24 (0, 0)) (by (with_reducible repeat (first | refine qkA ?_ _ | refine qkB ?_ | refine qkC ?_ _)); exact BK280.out) hb); have n4_ := qas (blk_below (g := gb287) (o := .cells #[.slice Ao29 t283.length co29] 24 (0, 0)) (by (with_reducible repeat (first | refine qkA ?_ _ | refine qkB ?_ | refine qkC ?_ _)); exact BK287.out) hb); have n5_ := qas (below_step (by repeat (first | (with_reducible first | exact HB.out | apply qbA | apply qbB | apply qbC | refine below_set ?_ GE280.out | refine below_set ?_ GE287.out) | exact HB.out)) hb); have n6_ := qas (hbox); have n7_ := qas ((by rw [hg]; exact (below_size (by repeat (first | (with_reducible first | exact HB.out | apply qbA | apply qbB | apply qbC | refine below_set ?_ GE280.out | refine below_set ?_ GE287.out) | exact HB.out))) : w.heap.size ≤ gb292)); have n8_ := qas ((by rw [hg]; exact (below_size (by repeat (first | (with_reducible first | exact HB.out | apply qbA | apply qbB | apply qbC | refine below_set ?_ GE280.out | refine below_set ?_ GE287.out) | exact HB.out))) : w.heap.size ≤ gb292)); have n9_ := qas ((by rw [hg]; exact Nat.ne_of_lt (blk_lt (g := gb280) (o := .cells #[.slice Ao23 y277.length co23] 24 (0, 0)) (by (with_reducible repeat (first | refine qkA ?_ _ | refine qkB ?_ | refine qkC ?_ _)); exact BK280.out)) : gb280 ≠ gb292)); have n10_ := qas ((by rw [hg]; exact Nat.ne_of_gt (blk_lt (g := gb280) (o := .cells #[.slice Ao23 y277.length co23] 24 (0, 0)) (by (with_reducible repeat (first | refine qkA ?_ _ | refine qkB ?_ | refine qkC ?_ _)); exact BK280.out)) : gb292 ≠ gb280)); have n11_ := qas ((by rw [hg]; exact Nat.ne_of_lt (blk_lt (g := gb287) (o := .cells #[.slice Ao29 t283.length co29] 24 (0, 0)) (by (with_reducible repeat (first | refine qkA ?_ _ | refine qkB ?_ | refine qkC ?_ _)); exact BK287.out)) : gb287 ≠ gb292)); have n12_ := qas ((by rw [hg]; exact Nat.ne_of_gt (blk_lt (g := gb287) (o := .cells #[.slice Ao29 t283.length co29] 24 (0, 0)) (by (with_reducible repeat (first | refine qkA ?_ _ | refine qkB ?_ | refine qkC ?_ _)); exact BK287.out)) : gb292 ≠ gb287)); clear HO279; clear HO285; clear HO290; clear BK280; clear BK287; clear HB; have HO279 := n0_; have HO285 := n1_; have HO290 := n2_; have BK280 := n3_; have BK287 := n4_; have HB := n5_; have BK292 := n6_; have GW292 := n7_; have GE292 := n8_; have NB280_292 := n9_; have NB292_280 := n10_; have NB287_292 := n11_; have NB292_287 := n12_; clear n0_ n1_ n2_ n3_ n4_ n5_ n6_ n7_ n8_ n9_ n10_ n11_ n12_; clear hb hbox hg; obtain ⟨Ao34, co34, eo34⟩ := Kd.N_slice HO290.out; subst eo34; have hnb35 := NB292_280.out; have hnc35 := NB280_292.out; have hnb36 := NB292_287.out; have hnc36 := NB287_292.out; have hcz37_0 : w33.cell? ⟨gb292, 0, none⟩ = some (.slice none 0 0) := (blk_cell BK292.out 0).trans rfl; have hfz37_0 := blk_frozen BK292.out 0) | ((with_reducible refine gate_callee (f := 28) rfl ?_); refine goesL_ (some 31) rfl rfl Tryd.func28 (by kernel_rfl) rfl #[.string (⟨#[]⟩ : ByteArray)] rfl (by (try simp only [List.map_toArray, List.map_cons, List.map_nil]); first | done | rfl | (simp only [List.length_drop, List.length_take]; rfl)) ?_; (with_reducible refine (zipget_Get.calls k (⟨#[]⟩ : ByteArray) t293 t296 _ A7.out).mono ?_); rintro e w38 ⟨v294, rfl, ho0, hb⟩; refine ⟨_, rfl, ?_⟩; have n0_ := qas (Kd.N_elder' (by (with_reducible repeat (first | apply Kd.N_alloc | apply Kd.N_drewN | apply Kd.N_drew)); exact (Kd.N_mono (Kd.N_far (p := ⟨gb292, 0, none⟩) (Kd.N_mono HO279.out (fun k_ hk => (⟨hk, hk.2⟩ : _ ∧ k_ ≠ gb292))) (fun _ hk => hk.2) (.slice Ao34 t288.length co34)) (fun _ h_ => h_.1))) (Kd.S_base ho0) hb); have n1_ := qas (Kd.N_elder' (by (with_reducible repeat (first | apply Kd.N_alloc | apply Kd.N_drewN | apply Kd.N_drew)); exact (Kd.N_mono (Kd.N_far (p := ⟨gb292, 0, none⟩) (Kd.N_mono HO285.out (fun k_ hk => (⟨hk, hk.2⟩ : _ ∧ k_ ≠ gb292))) (fun _ hk => hk.2) (.slice Ao34 t288.length co34)) (fun _ h_ => h_.1))) (Kd.S_base ho0) hb); have n2_ := qas (Kd.N_elder' (by (with_reducible repeat (first | apply Kd.N_alloc | apply Kd.N_drewN | apply Kd.N_drew)); exact (Kd.N_mono (Kd.N_far (p := ⟨gb292, 0, none⟩) (Kd.N_mono HO290.out (fun k_ hk => (⟨hk, hk.2⟩ : _ ∧ k_ ≠ gb292))) (fun _ hk => hk.2) (.slice Ao34 t288.length co34)) (fun _ h_ => h_.1))) (Kd.S_base ho0) hb); have n3_ := qas (Kd.N_lower (Kd.N_mono (ok' := fun k_ => some k_ ≠ (.slice Ao23 y277.length co23 : Value).ownBlock ∧ some k_ ≠ (.slice Ao29 t283.length co29 : Value).ownBlock ∧ some k_ ≠ (.slice Ao34 t288.length co34 : Value).ownBlock ∧ k_ ≠ gb280 ∧ k_ ≠ gb287 ∧ k_ ≠ gb292) (Kd.S_N (Kd.S_bound ho0)) (fun k_ hk_ => ⟨(Kd.fresh' (Kd.N_lt (by (with_reducible repeat (first | apply Kd.N_alloc | apply Kd.N_drewN | apply Kd.N_drew)); exact (Kd.N_mono (Kd.N_far (p := ⟨gb292, 0, none⟩) (Kd.N_mono HO279.out (fun k_ hk => (⟨hk, hk.2⟩ : _ ∧ k_ ≠ gb292))) (fun _ hk => hk.2) (.slice Ao34 t288.length co34)) (fun _ h_ => h_.1)))) k_ hk_.2.1), (Kd.fresh' (Kd.N_lt (by (with_reducible repeat (first | apply Kd.N_alloc | apply Kd.N_drewN | apply Kd.N_drew)); exact (Kd.N_mono (Kd.N_far (p := ⟨gb292, 0, none⟩) (Kd.N_mono HO285.out (fun k_ hk => (⟨hk, hk.2⟩ : _ ∧ k_ ≠ gb292))) (fun _ hk => hk.2) (.slice Ao34 t288.length co34)) (fun _ h_ => h_.1)))) k_ hk_.2.1), (Kd.fresh' (Kd.N_lt (by (with_reducible repeat (first | apply Kd.N_alloc | apply Kd.N_drewN | apply Kd.N_drew)); exact (Kd.N_mono (Kd.N_far (p := ⟨gb292, 0, none⟩) (Kd.N_mono HO290.out (fun k_ hk => (⟨hk, hk.2⟩ : _ ∧ k_ ≠ gb292))) (fun _ hk => hk.2) (.slice Ao34 t288.length co34)) (fun _ h_ => h_.1)))) k_ hk_.2.1), (Kd.freshB (g := gb280) (o := .cells #[.slice Ao23 y277.length co23] 24 (0, 0)) (by (with_reducible repeat (first | refine qkA ?_ _ | refine qkB ?_ | refine qkC ?_ _)); refine blk_far ?_ NB280_292.out _; (with_reducible repeat (first | refine qkA ?_ _ | refine qkB ?_ | refine qkC ?_ _)); exact BK280.out) k_ hk_.2.1), (Kd.freshB (g := gb287) (o := .cells #[.slice Ao29 t283.length co29] 24 (0, 0)) (by (with_reducible repeat (first | refine qkA ?_ _ | refine qkB ?_ | refine qkC ?_ _)); refine blk_far ?_ NB287_292.out _; (with_reducible repeat (first | refine qkA ?_ _ | refine qkB ?_ | refine qkC ?_ _)); exact BK287.out) k_ hk_.2.1), (Kd.freshB (g := gb292) (o := .cells #[.slice Ao34 t288.length co34] 24 (0, 0)) (by (with_reducible repeat (first | refine qkA ?_ _ | refine qkB ?_ | refine qkC ?_ _)); refine blk_put (cs := #[.slice none 0 0]) ?_ 0 _ rfl; (with_reducible repeat (first | refine qkA ?_ _ | refine qkB ?_ | refine qkC ?_ _)); exact BK292.out) k_ hk_.2.1)⟩)) (below_size (by repeat (first | (with_reducible first | exact HB.out | apply qbA | apply qbB | apply qbC | refine below_set ?_ GE280.out | refine below_set ?_ GE287.out | refine below_set ?_ GE292.out) | exact HB.out)))); have n4_ := qas (blk_below (g := gb280) (o := .cells #[.slice Ao23 y277.length co23] 24 (0, 0)) (by (with_reducible repeat (first | refine qkA ?_ _ | refine qkB ?_ | refine qkC ?_ _)); refine blk_far ?_ NB280_292.out _; (with_reducible repeat (first | refine qkA ?_ _ | refine qkB ?_ | refine qkC ?_ _)); exact BK280.out) hb); have n5_ := qas (blk_below (g := gb287) (o := .cells #[.slice Ao29 t283.length co29] 24 (0, 0)) (by (with_reducible repeat (first | refine qkA ?_ _ | refine qkB ?_ | refine qkC ?_ _)); refine blk_far ?_ NB287_292.out _; (with_reducible repeat (first | refine qkA ?_ _ | refine qkB ?_ | refine qkC ?_ _)); exact BK287.out) hb); have n6_ := qas (blk_below (g := gb292) (o := .cells #[.slice Ao34 t288.length co34] 24 (0, 0)) (by (with_reducible repeat (first | refine qkA ?_ _ | refine qkB ?_ | refine qkC ?_ _)); refine blk_put (cs := #[.slice none 0 0]) ?_ 0 _ rfl; (with_reducible repeat (first | refine qkA ?_ _ | refine qkB ?_ | refine qkC ?_ _)); exact BK292.out) hb); have n7_ := qas (below_step (by repeat (first | (with_reducible first | exact HB.out | apply qbA | apply qbB | apply qbC | refine below_set ?_ GE280.out | refine below_set ?_ GE287.out | refine below_set ?_ GE292.out) | exact HB.out)) hb); clear HO279; clear HO285; clear HO290; clear BK280; clear BK287; clear BK292; clear HB; have HO279 := n0_; have HO285 := n1_; have HO290 := n2_; have HO295 := n3_; have BK280 := n4_; have BK287 := n5_; have BK292 := n6_; have HB := n7_; clear n0_ n1_ n2_ n3_ n4_ n5_ n6_ n7_; (try clear hb); (try clear hb2); (try clear hk); (try clear hi); (try clear ho0)) | ((with_reducible refine gate_dst (N := 8) rfl ?_); refine box_event ?hg (N := 8) ?hd (cs := #[.slice none 0 0]) (t := 24) ?hr ?_; (case hd => rfl); (case hg => rfl); (case hr => first | (go_simp; done) | (go_simp; rfl)); intro gb297 hg w39 hbox hb; have n0_ := qas (Kd.N_below (Kd.N_elderB (by (with_reducible repeat (first | apply Kd.N_alloc | apply Kd.N_drewN | apply Kd.N_drew)); exact HO279.out) gb297 (Nat.le_of_eq hg.symm)) hb); have n1_ := qas (Kd.N_below (Kd.N_elderB (by (with_reducible repeat (first | apply Kd.N_alloc | apply Kd.N_drewN | apply Kd.N_drew)); exact HO285.out) gb297 (Nat.le_of_eq hg.symm)) hb); have n2_ := qas (Kd.N_below (Kd.N_elderB (by (with_reducible repeat (first | apply Kd.N_alloc | apply Kd.N_drewN | apply Kd.N_drew)); exact HO290.out) gb297 (Nat.le_of_eq hg.symm)) hb); have n3_ := qas (Kd.N_below (Kd.N_elderB (by (with_reducible repeat (first | apply Kd.N_alloc | apply Kd.N_drewN | apply Kd.N_drew)); exact HO295.out) gb297 (Nat.le_of_eq hg.symm)) hb); have n4_ := qas (blk_below (g := gb280) (o := .cells #[.slice Ao23 y277.length co23] 24 (0, 0)) (by (with_reducible repeat (first | refine qkA ?_ _ | refine qkB ?_ | refine qkC ?_ _)); exact BK280.out) hb); have n5_ := qas (blk_below (g := gb287) (o := .cells #[.slice Ao29 t283.length co29] 24 (0, 0)) (by (with_reducible repeat (first | refine qkA ?_ _ | refine qkB ?_ | refine qkC ?_ _)); exact BK287.out) hb); have n6_ := qas (blk_below (g := gb292) (o := .cells #[.slice Ao34 t288.length co34] 24 (0, 0)) (by (with_reducible repeat (first | refine qkA ?_ _ | refine qkB ?_ | refine qkC ?_ _)); exact BK292.out) hb); have n7_ := qas (below_step (by repeat (first | (with_reducible first | exact HB.out | apply qbA | apply qbB | apply qbC | refine below_set ?_ GE280.out | refine below_set ?_ GE287.out | refine below_set ?_ GE292.out) | exact HB.out)) hb); have n8_ := qas (hbox); have n9_ := qas ((by rw [hg]; exact (below_size (by repeat (first | (with_reducible first | exact HB.out | apply qbA | apply qbB | apply qbC | refine below_set ?_ GE280.out | refine below_set ?_ GE287.out | refine below_set ?_ GE292.out) | exact HB.out))) : w.heap.size ≤ gb297)); have n10_ := qas ((by rw [hg]; exact (below_size (by repeat (first | (with_reducible first | exact HB.out | apply qbA | apply qbB | apply qbC | refine below_set ?_ GE280.out | refine below_set ?_ GE287.out | refine below_set ?_ GE292.out) | exact HB.out))) : w.heap.size ≤ gb297)); have n11_ := qas ((by rw [hg]; exact Nat.ne_of_lt (blk_lt (g := gb280) (o := .cells #[.slice Ao23 y277.length co23] 24 (0, 0)) (by (with_reducible repeat (first | refine qkA ?_ _ | refine qkB ?_ | refine qkC ?_ _)); exact BK280.out)) : gb280 ≠ gb297)); have n12_ := qas ((by rw [hg]; exact Nat.ne_of_gt (blk_lt (g := gb280) (o := .cells #[.slice Ao23 y277.length co23] 24 (0, 0)) (by (with_reducible repeat (first | refine qkA ?_ _ | refine qkB ?_ | refine qkC ?_ _)); exact BK280.out)) : gb297 ≠ gb280)); have n13_ := qas ((by rw [hg]; exact Nat.ne_of_lt (blk_lt (g := gb287) (o := .cells #[.slice Ao29 t283.length co29] 24 (0, 0)) (by (with_reducible repeat (first | refine qkA ?_ _ | refine qkB ?_ | refine qkC ?_ _)); exact BK287.out)) : gb287 ≠ gb297)); have n14_ := qas ((by rw [hg]; exact Nat.ne_of_gt (blk_lt (g := gb287) (o := .cells #[.slice Ao29 t283.length co29] 24 (0, 0)) (by (with_reducible repeat (first | refine qkA ?_ _ | refine qkB ?_ | refine qkC ?_ _)); exact BK287.out)) : gb297 ≠ gb287)); have n15_ := qas ((by rw [hg]; exact Nat.ne_of_lt (blk_lt (g := gb292) (o := .cells #[.slice Ao34 t288.length co34] 24 (0, 0)) (by (with_reducible repeat (first | refine qkA ?_ _ | refine qkB ?_ | refine qkC ?_ _)); exact BK292.out)) : gb292 ≠ gb297)); have n16_ := qas ((by rw [hg]; exact Nat.ne_of_gt (blk_lt (g := gb292) (o := .cells #[.slice Ao34 t288.length co34] 24 (0, 0)) (by (with_reducible repeat (first | refine qkA ?_ _ | refine qkB ?_ | refine qkC ?_ _)); exact BK292.out)) : gb297 ≠ gb292)); clear HO279; clear HO285; clear HO290; clear HO295; clear BK280; clear BK287; clear BK292; clear HB; have HO279 := n0_; have HO285 := n1_; have HO290 := n2_; have HO295 := n3_; have BK280 := n4_; have BK287 := n5_; have BK292 := n6_; have HB := n7_; have BK297 := n8_; have GW297 := n9_; have GE297 := n10_; have NB280_297 := n11_; have NB297_280 := n12_; have NB287_297 := n13_; have NB297_287 := n14_; have NB292_297 := n15_; have NB297_292 := n16_; clear n0_ n1_ n2_ n3_ n4_ n5_ n6_ n7_ n8_ n9_ n10_ n11_ n12_ n13_ n14_ n15_ n16_; clear hb hbox hg; obtain ⟨Ao40, co40, eo40⟩ := Kd.N_slice HO295.out; subst eo40; have hnb41 := NB297_280.out; have hnc41 := NB280_297.out; have hnb42 := NB297_287.out; have hnc42 := NB287_297.out; have hnb43 := NB297_292.out; have hnc43 := NB292_297.out; have hcz44_0 : w39.cell? ⟨gb297, 0, none⟩ = some (.slice none 0 0) := (blk_cell BK297.out 0).trans rfl; have hfz44_0 := blk_frozen BK297.out 0) | ((with_reducible refine gate_callee (f := 19) rfl ?_); refine goesL_ (some 35) rfl rfl Tryd.func19 (by kernel_rfl) rfl #[.int .i64 t282] rfl (by (try simp only [List.map_toArray, List.map_cons, List.map_nil]); first | done | rfl | (simp only [List.length_drop, List.length_take]; rfl)) ?_; (with_reducible refine (pl_Num.calls t282 t298 _ A8.out).mono ?_); rintro e w' ⟨rfl, ⟨nd, rfl⟩⟩; refine ⟨_, rfl, ?_⟩; have hcz45_0 : w39.cell? ⟨gb280, 0, none⟩ = some (.slice Ao23 y277.length co23) := (blk_cell BK280.out 0).trans rfl; have hfz45_0 := blk_frozen BK280.out 0; have hcz46_0 : w39.cell? ⟨gb287, 0, none⟩ = some (.slice Ao29 t283.length co29) := (blk_cell BK287.out 0).trans rfl; have hfz46_0 := blk_frozen BK287.out 0) | (go_at_call 24; (with_reducible refine (pl_SameFolder.calls k _ _ y277 _ _ t283 true _ ?side1 ?side2 ?side3 ?side4 A10.out).mono ?_); (case side1 => refine (Kd.N_reads' (e := 39) (base := w.heap.size) (ok := fun k_ => (((((((True ∧ k_ ≠ gb280) ∧ some k_ ≠ (.slice Ao29 t283.length co29 : Value).ownBlock) ∧ k_ ≠ gb287) ∧ some k_ ≠ (.slice Ao34 t288.length co34 : Value).ownBlock) ∧ k_ ≠ gb292) ∧ some k_ ≠ (.slice Ao40 t293.length co40 : Value).ownBlock) ∧ k_ ≠ gb297)) (n := y277.length) (c := co23) ?_).2.2; exact (by (with_reducible repeat (first | apply Kd.N_alloc | apply Kd.N_drewN | apply Kd.N_drew)); exact (Kd.N_mono (Kd.N_far (p := ⟨gb297, 0, none⟩) (Kd.N_mono HO279.out (fun k_ hk => (⟨hk, hk.2⟩ : _ ∧ k_ ≠ gb297))) (fun _ hk => hk.2) (.slice Ao40 t293.length co40)) (fun _ h_ => h_.1)))); (case side2 => exact (Kd.N_reads' HO279.out).2.1); (case side3 => refine (Kd.N_reads' (e := 39) (base := w.heap.size) (ok := fun k_ => ((((((some k_ ≠ (.slice Ao23 y277.length co23 : Value).ownBlock ∧ k_ ≠ gb280) ∧ k_ ≠ gb287) ∧ some k_ ≠ (.slice Ao34 t288.length co34 : Value).ownBlock) ∧ k_ ≠ gb292) ∧ some k_ ≠ (.slice Ao40 t293.length co40 : Value).ownBlock) ∧ k_ ≠ gb297)) (n := t283.length) (c := co29) ?_).2.2; exact (by (with_reducible repeat (first | apply Kd.N_alloc | apply Kd.N_drewN | apply Kd.N_drew)); exact (Kd.N_mono (Kd.N_far (p := ⟨gb297, 0, none⟩) (Kd.N_mono HO285.out (fun k_ hk => (⟨hk, hk.2⟩ : _ ∧ k_ ≠ gb297))) (fun _ hk => hk.2) (.slice Ao40 t293.length co40)) (fun _ h_ => h_.1)))); (case side4 => exact (Kd.N_reads' HO285.out).2.1); rintro e w47 ⟨rfl, hb⟩; have n0_ := qas (Kd.N_below (by (with_reducible repeat (first | apply Kd.N_alloc | apply Kd.N_drewN | apply Kd.N_drew)); exact (Kd.N_mono (Kd.N_far (p := ⟨gb297, 0, none⟩) (Kd.N_mono HO279.out (fun k_ hk => (⟨hk, hk.2⟩ : _ ∧ k_ ≠ gb297))) (fun _ hk => hk.2) (.slice Ao40 t293.length co40)) (fun _ h_ => h_.1))) hb); have n1_ := qas (Kd.N_below (by (with_reducible repeat (first | apply Kd.N_alloc | apply Kd.N_drewN | apply Kd.N_drew)); exact (Kd.N_mono (Kd.N_far (p := ⟨gb297, 0, none⟩) (Kd.N_mono HO285.out (fun k_ hk => (⟨hk, hk.2⟩ : _ ∧ k_ ≠ gb297))) (fun _ hk => hk.2) (.slice Ao40 t293.length co40)) (fun _ h_ => h_.1))) hb); have n2_ := qas (Kd.N_below (by (with_reducible repeat (first | apply Kd.N_alloc | apply Kd.N_drewN | apply Kd.N_drew)); exact (Kd.N_mono (Kd.N_far (p := ⟨gb297, 0, none⟩) (Kd.N_mono HO290.out (fun k_ hk => (⟨hk, hk.2⟩ : _ ∧ k_ ≠ gb297))) (fun _ hk => hk.2) (.slice Ao40 t293.length co40)) (fun _ h_ => h_.1))) hb); have n3_ := qas (Kd.N_below (by (with_reducible repeat (first | apply Kd.N_alloc | apply Kd.N_drewN | apply Kd.N_drew)); exact (Kd.N_mono (Kd.N_far (p := ⟨gb297, 0, none⟩) (Kd.N_mono HO295.out (fun k_ hk => (⟨hk, hk.2⟩ : _ ∧ k_ ≠ gb297))) (fun _ hk => hk.2) (.slice Ao40 t293.length co40)) (fun _ h_ => h_.1))) hb); have n4_ := qas (blk_below (g := gb280) (o := .cells #[.slice Ao23 y277.length co23] 24 (0, 0)) (by (with_reducible repeat (first | refine qkA ?_ _ | refine qkB ?_ | refine qkC ?_ _)); refine blk_far ?_ NB280_297.out _; (with_reducible repeat (first | refine qkA ?_ _ | refine qkB ?_ | refine qkC ?_ _)); exact BK280.out) hb); have n5_ := qas (blk_below (g := gb287) (o := .cells #[.slice Ao29 t283.length co29] 24 (0, 0)) (by (with_reducible repeat (first | refine qkA ?_ _ | refine qkB ?_ | refine qkC ?_ _)); refine blk_far ?_ NB287_297.out _; (with_reducible repeat (first | refine qkA ?_ _ | refine qkB ?_ | refine qkC ?_ _)); exact BK287.out) hb); have n6_ := qas (blk_below (g := gb292) (o := .cells #[.slice Ao34 t288.length co34] 24 (0, 0)) (by (with_reducible repeat (first | refine qkA ?_ _ | refine qkB ?_ | refine qkC ?_ _)); refine blk_far ?_ NB292_297.out _; (with_reducible repeat (first | refine qkA ?_ _ | refine qkB ?_ | refine qkC ?_ _)); exact BK292.out) hb); have n7_ := qas (blk_below (g := gb297) (o := .cells #[.slice Ao40 t293.length co40] 24 (0, 0)) (by (with_reducible repeat (first | refine qkA ?_ _ | refine qkB ?_ | refine qkC ?_ _)); refine blk_put (cs := #[.slice none 0 0]) ?_ 0 _ rfl; (with_reducible repeat (first | refine qkA ?_ _ | refine qkB ?_ | refine qkC ?_ _)); exact BK297.out) hb); have n8_ := qas (below_step (by repeat (first | (with_reducible first | exact HB.out | apply qbA | apply qbB | apply qbC | refine below_set ?_ GE280.out | refine below_set ?_ GE287.out | refine below_set ?_ GE292.out | refine below_set ?_ GE297.out) | exact HB.out)) hb); clear HO279; clear HO285; clear HO290; clear HO295; clear BK280; clear BK287; clear BK292; clear BK297; clear HB; have HO279 := n0_; have HO285 := n1_; have HO290 := n2_; have HO295 := n3_; have BK280 := n4_; have BK287 := n5_; have BK292 := n6_; have BK297 := n7_; have HB := n8_; clear n0_ n1_ n2_ n3_ n4_ n5_ n6_ n7_ n8_; (try clear hb); (try clear hb2); (try clear hk); (try clear hi)) | (go_at_call 19; (with_reducible refine (pl_Num.calls t286 t300 _ A12.out).mono ?_); rintro e w' ⟨rfl, ⟨nd, rfl⟩⟩) | (go_at_call 19; (with_reducible refine (pl_Num.calls t291 t301 _ A14.out).mono ?_); rintro e w' ⟨rfl, ⟨nd, rfl⟩⟩) | (go_at_call 19; (with_reducible refine (pl_Num.calls t296 t302 _ A16.out).mono ?_); rintro e w' ⟨rfl, ⟨nd, rfl⟩⟩))
 go_ret
 exact ⟨by first | rfl | (simp [errW_none, errW_some] <;> rfl) | (simp [*, errW_none, errW_some] <;> rfl), by repeat (first | (with_reducible first | exact HB.out | apply qbA | apply qbB | apply qbC | refine below_set ?_ GE280.out | refine below_set ?_ GE287.out | refine below_set ?_ GE292.out | refine below_set ?_ GE297.out) | exact HB.out)⟩

end Go.Proofs.YtneogampbohfnaaDoor.ZG
