-- Printed out of the translation by a program of this session.
import Derived.Test.YtneogampbohfnaaDoorZB0
import Derived.Test.YtneogampbohfnaaDoorProg
import Derived.Below
import Derived.Deep.Draws
import Derived.Deep.AppendLies
import Derived.Maps.AppendAt
import Derived.OwnWalk
import Derived.Laws.BytesArg
import Derived.Laws.MakeOwn
import Derived.Laws.OwnMore
import Derived.Deep.OwnRows
import Derived.Tactics
import Derived.Lib.ConvBytes
import Derived.Laws.Slices
import Derived.WalkKit
import Derived.KernelRfl
import Derived.RowKit3
import Derived.Deep.LoopGhost
import Derived.Deep.QuietTactic
import Derived.BigQuiet
import Derived.WideLaws
import Derived.Deep.DeepCutAuto
import Derived.Deep.CutBlock
import Derived.Deep.RegionHeld3
import Derived.Laws.Rows
import Derived.Lib.AppendStr
import Derived.ArgAppend
import Derived.Laws.IdiomCopy
import Derived.OrdersHeld
import Derived.Laws.BitsLemmas
import Derived.RowKit
import Derived.Test.YtneogampbohfnaaDoorWWords
import Derived.Test.YtneogampbohfnaaDoorWLast
import Derived.Test.YtneogampbohfnaaDoorWTab
import Derived.Test.YtneogampbohfnaaDoorWFour
import Derived.Test.YtneogampbohfnaaDoorWQPut
import Derived.Test.YtneogampbohfnaaDoorWApart
import Derived.Test.YtneogampbohfnaaDoorWArr
import Derived.Test.YtneogampbohfnaaDoorWZeros
import Derived.Test.YtneogampbohfnaaDoorWFoot
import Derived.Test.YtneogampbohfnaaDoorWKept
import Derived.Test.YtneogampbohfnaaDoorWShare
import Derived.Test.YtneogampbohfnaaDoorWN
import Derived.Test.YtneogampbohfnaaDoorWFootNe
import Derived.Test.YtneogampbohfnaaDoorWAt
import Derived.Test.YtneogampbohfnaaDoorWEqStruct
import Derived.Test.YtneogampbohfnaaDoorWRepsOne
import Derived.Test.YtneogampbohfnaaDoorWInv
import Derived.Test.YtneogampbohfnaaDoorWInvWords
import Derived.Test.YtneogampbohfnaaDoorWGuard
import Derived.Test.YtneogampbohfnaaDoorWNEv
import Derived.Test.YtneogampbohfnaaDoorWMore
import Derived.Test.YtneogampbohfnaaDoorZipU
import Derived.Test.YtneogampbohfnaaDoorLq
namespace Go.Proofs.YtneogampbohfnaaDoor.ZZ
open Go.Proofs.YtneogampbohfnaaDoor.ZB (S39 z39 k39 k39_open k39_openM k39_mk k39_mkM rd_T39 at_T39)
open Go.RowKit Go.Proofs.YtneogampbohfnaaDoorW.PrintWords Go.Proofs.YtneogampbohfnaaDoorW.PrintLast Go.Proofs.YtneogampbohfnaaDoorW.PrintMore
abbrev qt : Bool := true
abbrev qf : Bool := false
attribute [local go_sem] max2_int min2_int max_two min_two max_three min_three max_four min_four   -- for this text's walks alone
set_option linter.unusedVariables false
set_option linter.unusedSimpArgs false



def errW : Option Int → Value
 | none => .nilIface
 | some c => .iface 0 (.int .i64 c)
theorem errW_none : errW none = .nilIface := rfl
theorem errW_some (c : Int) : errW (some c) = .iface 0 (.int .i64 c) := rfl

theorem info3 : (Tryd.prog.info? 3).map (fun i => (i.zero, i.size, i.bytes)) = some (some (.int .i64 0), 1, 8) := by kernel_rfl
theorem info5 : (Tryd.prog.info? 5).map (fun i => (i.zero, i.size, i.bytes)) = some (some (.int .u8 0), 1, 1) := by kernel_rfl
theorem info39 : (Tryd.prog.info? 39).map (fun i => (i.zero, i.size, i.bytes)) = some (some (.agg #[(.string ⟨#[]⟩), (.bool false), (.slice none 0 0), (.int .i64 0), (.int .i64 0), (.int .i64 0), (.string ⟨#[]⟩), (.int .i64 0), (.int .i64 0)]), 9, 104) := by kernel_rfl
-- the values' own types
def rd_L3 (xs : List (List Int)) (i : Int) : (List Int) := xs.getD i.toNat ([] : List Int)
theorem at_L3 {w : World} {A : Option Addr} {n : Nat} {xs : List (List Int)} (h : Kd.C (Kd.slice 3 (Kd.int .i64)) w A n xs) (i : Int) (h0 : 0 ≤ i) (h1 : i < n) : ∃ ad A0 c0, A = some ad ∧ w.cell? (ad.add i.toNat) = some (.slice A0 (rd_L3 xs i).length c0) ∧ (rd_L3 xs i).length ≤ c0 ∧ (Kd.int .i64).C w A0 (rd_L3 xs i).length (rd_L3 xs i) := by
 obtain ⟨ad, c, e, _, hK, hc0⟩ := Kd.C_get h ([] : List Int) i h0 h1
 have hc : ∀ j u, c[j]? = some u → w.cell? (ad.add (i.toNat * 1 + j)) = some u := hc0
 obtain ⟨A0, c0, rfl, l0, g0⟩ := hK
 exact ⟨ad, A0, c0, e, by have hq := hc 0 _ rfl; rwa [Nat.mul_one, Nat.add_zero] at hq, l0, g0⟩

/-! #### struct type 39 -/
theorem k39_openF {W : World} {ok : Nat → Prop} {x : S39} {cs : List Value} (h : Kd.FK k39 W ok x cs) : ∃ A2 c2, cs = [.string x.f0, .bool x.f1, .slice A2 x.f2.length c2, .int .i64 x.f3, .int .i64 x.f4, .int .i64 x.f5, .string x.f6, .int .i64 x.f7, .int .i64 x.f8] ∧ x.f2.length ≤ c2 ∧ Kd.F (Kd.int .i64) W ok A2 x.f2.length x.f2 := by
 obtain ⟨A2, c2, rfl, l2, _⟩ := k39_open (Kd.FK_now h)
 exact ⟨A2, c2, rfl, l2, (fun W' hW => by obtain ⟨A2_, c2_, he, l2_, g2_⟩ := k39_open (h W' hW); injection (Option.some.inj (show some (Value.slice A2 x.f2.length c2) = some (Value.slice A2_ x.f2.length c2_) from congrArg (fun l => l[2]?) he)) with ha_ _ _; rw [ha_]; exact g2_)⟩
theorem k39_mkF (W : World) (ok : Nat → Prop) (x : S39) {A2 : Option Addr} {c2 : Nat} (l2 : x.f2.length ≤ c2) (g2 : Kd.F (Kd.int .i64) W ok A2 x.f2.length x.f2) : Kd.FK k39 W ok x [.string x.f0, .bool x.f1, .slice A2 x.f2.length c2, .int .i64 x.f3, .int .i64 x.f4, .int .i64 x.f5, .string x.f6, .int .i64 x.f7, .int .i64 x.f8] := fun W2 hW => k39_mk W2 x l2 (g2 W2 hW)
def rd_L5 (xs : List (List S39)) (i : Int) : (List S39) := xs.getD i.toNat ([] : List S39)
theorem at_L5 {w : World} {A : Option Addr} {n : Nat} {xs : List (List S39)} (h : Kd.C (Kd.slice 39 k39) w A n xs) (i : Int) (h0 : 0 ≤ i) (h1 : i < n) : ∃ ad A0 c0, A = some ad ∧ w.cell? (ad.add i.toNat) = some (.slice A0 (rd_L5 xs i).length c0) ∧ (rd_L5 xs i).length ≤ c0 ∧ k39.C w A0 (rd_L5 xs i).length (rd_L5 xs i) := by
 obtain ⟨ad, c, e, _, hK, hc0⟩ := Kd.C_get h ([] : List S39) i h0 h1
 have hc : ∀ j u, c[j]? = some u → w.cell? (ad.add (i.toNat * 1 + j)) = some u := hc0
 obtain ⟨A0, c0, rfl, l0, g0⟩ := hK
 exact ⟨ad, A0, c0, e, by have hq := hc 0 _ rfl; rwa [Nat.mul_one, Nat.add_zero] at hq, l0, g0⟩

/-! #### struct type 24 -/
structure S24 where
 f0 : (List S39)
def z24 : S24 := ⟨([] : List S39)⟩
def k24 : Kd S24 := Kd.iso (Kd.slice 39 k39) (fun x : S24 => x.f0)
theorem k24_open {w : World} {x : S24} {cs : List Value} (h : k24.K w x cs) : ∃ A0 c0, cs = [.slice A0 x.f0.length c0] ∧ x.f0.length ≤ c0 ∧ k39.C w A0 x.f0.length x.f0 := by
 obtain ⟨A0, c0, rfl, l0, g0⟩ := h
 exact ⟨A0, c0, rfl, l0, g0⟩
theorem k24_openM {w : World} {base : Nat} {ok : Nat → Prop} {x : S24} {cs : List Value} (h : k24.M w base ok x cs) : ∃ v0, cs = [v0] ∧ k39.R 39 w base ok v0 x.f0 := by
 obtain ⟨v0, rfl, g0⟩ := h
 exact ⟨v0, rfl, g0⟩
theorem k24_mk (w : World) (x : S24) {A0 : Option Addr} {c0 : Nat} (l0 : x.f0.length ≤ c0) (g0 : k39.C w A0 x.f0.length x.f0) : k24.K w x [.slice A0 x.f0.length c0] := ⟨A0, c0, rfl, l0, g0⟩
theorem k24_mkM (w : World) (base : Nat) (ok : Nat → Prop) (x : S24) {v0 : Value} (g0 : k39.R 39 w base ok v0 x.f0) : k24.M w base ok x [v0] := ⟨v0, rfl, g0⟩
theorem k24_openF {W : World} {ok : Nat → Prop} {x : S24} {cs : List Value} (h : Kd.FK k24 W ok x cs) : ∃ A0 c0, cs = [.slice A0 x.f0.length c0] ∧ x.f0.length ≤ c0 ∧ Kd.F k39 W ok A0 x.f0.length x.f0 := by
 obtain ⟨A0, c0, rfl, l0, _⟩ := k24_open (Kd.FK_now h)
 exact ⟨A0, c0, rfl, l0, (fun W' hW => by obtain ⟨A0_, c0_, he, l0_, g0_⟩ := k24_open (h W' hW); injection (Option.some.inj (show some (Value.slice A0 x.f0.length c0) = some (Value.slice A0_ x.f0.length c0_) from congrArg (fun l => l[0]?) he)) with ha_ _ _; rw [ha_]; exact g0_)⟩
theorem k24_mkF (W : World) (ok : Nat → Prop) (x : S24) {A0 : Option Addr} {c0 : Nat} (l0 : x.f0.length ≤ c0) (g0 : Kd.F k39 W ok A0 x.f0.length x.f0) : Kd.FK k24 W ok x [.slice A0 x.f0.length c0] := fun W2 hW => k24_mk W2 x l0 (g0 W2 hW)
def rd_T24 (xs : List S24) (i : Int) : S24 := xs.getD i.toNat z24
theorem at_T24 {w : World} {A : Option Addr} {n : Nat} {xs : List S24} (h : Kd.C k24 w A n xs) (i : Int) (h0 : 0 ≤ i) (h1 : i < n) : ∃ ad A0 c0, A = some ad ∧ w.cell? (ad.add i.toNat) = some (.slice A0 (rd_T24 xs i).f0.length c0) ∧ (rd_T24 xs i).f0.length ≤ c0 ∧ k39.C w A0 (rd_T24 xs i).f0.length (rd_T24 xs i).f0 := by
 obtain ⟨ad, c, e, _, hK, hc0⟩ := Kd.C_get h z24 i h0 h1
 have hc : ∀ j u, c[j]? = some u → w.cell? (ad.add (i.toNat * 1 + j)) = some u := hc0
 obtain ⟨A0, c0, rfl, l0, g0⟩ := k24_open hK
 exact ⟨ad, A0, c0, e, by have hq := hc 0 _ rfl; rwa [Nat.mul_one, Nat.add_zero] at hq, l0, g0⟩

attribute [local go_sem] max2_int min2_int max_two min_two max_three min_three max_four min_four   -- for this text's walks alone
set_option linter.unusedVariables false
set_option linter.unusedSimpArgs false

/-! ### pl_CopyEntry: function 78 -/
def pl_CopyEntry.f (a0_0 : ByteArray) (a0_1 : Bool) (l0_2 : List Int) (a0_3 : Int) (a0_4 : Int) (a0_5 : Int) (a0_6 : ByteArray) (a0_7 : Int) (a0_8 : Int) : Option (ByteArray × Bool × List Int × Int × Int × Int × ByteArray × Int × Int) := (some (([] : List Int) : List Int)).bind fun y103 => (if y103.length + l0_2.length < 17592186044416 then (some (a0_0, a0_1, (y103 ++ l0_2), a0_3, a0_4, a0_5, a0_6, a0_7, a0_8)) else (none))
set_option maxHeartbeats 8000000 in
set_option maxRecDepth 100000 in
theorem pl_CopyEntry.calls (a0_0 : ByteArray) (a0_1 : Bool) (A0_2 : Option Addr) (c0_2 : Nat) (l0_2 : List Int) (a0_3 : Int) (a0_4 : Int) (a0_5 : Int) (a0_6 : ByteArray) (a0_7 : Int) (a0_8 : Int) (r1 : ByteArray) (r2 : Bool) (r3 : List Int) (r4 : Int) (r5 : Int) (r6 : Int) (r7 : ByteArray) (r8 : Int) (r9 : Int) (w : World) (hr0_2 : Kd.C (Kd.int .i64) w A0_2 l0_2.length l0_2) (hc0_2 : l0_2.length ≤ c0_2) (h : pl_CopyEntry.f a0_0 a0_1 l0_2 a0_3 a0_4 a0_5 a0_6 a0_7 a0_8 = some (r1, r2, r3, r4, r5, r6, r7, r8, r9)) :
  Calls Tryd.prog 78 #[.agg #[.string a0_0, .bool a0_1, .slice A0_2 l0_2.length c0_2, .int .i64 a0_3, .int .i64 a0_4, .int .i64 a0_5, .string a0_6, .int .i64 a0_7, .int .i64 a0_8]] w fun e w' => ∃ v2_ : Value, e = .returned (.agg #[.string r1, .bool r2, v2_, .int .i64 r4, .int .i64 r5, .int .i64 r6, .string r7, .int .i64 r8, .int .i64 r9]) ∧ Kd.R (Kd.int .i64) 3 w' w.heap.size (fun _ => True) v2_ r3 ∧ Below w.heap.size w w' := by
 have hu39 := Tryd.underlying39
 have HR0_2 := qas hr0_2
 have HC0_2 := qas hc0_2
 clear hr0_2 hc0_2
 have HB := qas (Below.refl w.heap.size w)
 have H : ((some (([] : List Int) : List Int)).bind fun y103 => (if y103.length + l0_2.length < 17592186044416 then (some (a0_0, a0_1, (y103 ++ l0_2), a0_3, a0_4, a0_5, a0_6, a0_7, a0_8)) else (none))) = some (r1, r2, r3, r4, r5, r6, r7, r8, r9) := h
 clear h
 obtain ⟨y103, hy103⟩ : ∃ y_ : List Int, y_ = (([] : List Int)) := ⟨_, rfl⟩
 replace H : (if y103.length + l0_2.length < 17592186044416 then (some (a0_0, a0_1, (y103 ++ l0_2), a0_3, a0_4, a0_5, a0_6, a0_7, a0_8)) else (none)) = some (r1, r2, r3, r4, r5, r6, r7, r8, r9) := by first | (rw [hy103]; with_reducible exact H) | (have H2_ := (Option.bind_some _ _).symm.trans H; rw [hy103]; with_reducible exact H2_) | (have H2_ := (Option.bind_some _ _).symm.trans H; with_reducible exact H2_) | with_reducible exact H | (rw [hy103]; exact H) | exact H
 have Ny103 := qas hy103
 clear hy103
 by_cases c2 : y103.length + l0_2.length < 17592186044416
 rotate_left
 ·rw [if_neg c2] at H
  exact absurd H (by simp)
 rw [if_pos c2] at H
 have LMc2 := qas c2
 clear c2
 obtain ⟨y106, hy106⟩ : ∃ y_ : List Int, y_ = (y103 ++ l0_2) := ⟨_, rfl⟩
 replace H : (some (a0_0, a0_1, y106, a0_3, a0_4, a0_5, a0_6, a0_7, a0_8)) = some (r1, r2, r3, r4, r5, r6, r7, r8, r9) := by first | (rw [hy106]; with_reducible exact H) | (have H2_ := (Option.bind_some _ _).symm.trans H; rw [hy106]; with_reducible exact H2_) | (have H2_ := (Option.bind_some _ _).symm.trans H; with_reducible exact H2_) | with_reducible exact H | (rw [hy106]; exact H) | exact H
 have Ny106 := qas hy106
 clear hy106
 simp only [Option.some.injEq, Prod.mk.injEq] at H
 obtain ⟨rfl, rfl, rfl, rfl, rfl, rfl, rfl, rfl, rfl⟩ := H
 go_enter Tryd.func78, Tryd.ntmps78
 go_wp2_with (first | ((with_reducible refine gate_dst (N := 1) rfl ?_); refine box_event ?hg (N := 1) ?hd (cs := #[.string a0_0, .bool a0_1, .slice A0_2 l0_2.length c0_2, .int .i64 a0_3, .int .i64 a0_4, .int .i64 a0_5, .string a0_6, .int .i64 a0_7, .int .i64 a0_8]) (t := 39) ?hr ?_; (case hd => rfl); (case hg => rfl); (case hr => first | (go_simp; done) | (go_simp; rfl)); intro gb101 hg w3 hbox hb; have n0_ := qas (below_step (by repeat (first | (with_reducible first | exact HB.out | apply qbA | apply qbB | apply qbC) | exact HB.out)) hb); have n1_ := qas (hbox); have n2_ := qas ((by rw [hg]; exact (below_size (by repeat (first | (with_reducible first | exact HB.out | apply qbA | apply qbB | apply qbC) | exact HB.out))) : w.heap.size ≤ gb101)); have n3_ := qas ((by rw [hg]; exact (below_size (by repeat (first | (with_reducible first | exact HB.out | apply qbA | apply qbB | apply qbC) | exact HB.out))) : w.heap.size ≤ gb101)); clear HB; have HB := n0_; have BK101 := n1_; have GW101 := n2_; have GE101 := n3_; clear n0_ n1_ n2_ n3_; clear hb hbox hg) | ((with_reducible refine gate_dst (N := 2) rfl ?_); refine box_event ?hg (N := 2) ?hd (cs := #[.string (⟨#[]⟩ : ByteArray), .bool false, .slice none 0 0, .int .i64 0, .int .i64 0, .int .i64 0, .string (⟨#[]⟩ : ByteArray), .int .i64 0, .int .i64 0]) (t := 39) ?hr ?_; (case hd => rfl); (case hg => rfl); (case hr => first | (go_simp; done) | (go_simp; rfl)); intro gb102 hg w4 hbox hb; have n0_ := qas (blk_below (g := gb101) (o := .cells #[.string a0_0, .bool a0_1, .slice A0_2 l0_2.length c0_2, .int .i64 a0_3, .int .i64 a0_4, .int .i64 a0_5, .string a0_6, .int .i64 a0_7, .int .i64 a0_8] 39 (0, 0)) (by (with_reducible repeat (first | refine qkA ?_ _ | refine qkB ?_ | refine qkC ?_ _)); exact BK101.out) hb); have n1_ := qas (below_step (by repeat (first | (with_reducible first | exact HB.out | apply qbA | apply qbB | apply qbC | refine below_set ?_ GE101.out) | exact HB.out)) hb); have n2_ := qas (hbox); have n3_ := qas ((by rw [hg]; exact (below_size (by repeat (first | (with_reducible first | exact HB.out | apply qbA | apply qbB | apply qbC | refine below_set ?_ GE101.out) | exact HB.out))) : w.heap.size ≤ gb102)); have n4_ := qas ((by rw [hg]; exact (below_size (by repeat (first | (with_reducible first | exact HB.out | apply qbA | apply qbB | apply qbC | refine below_set ?_ GE101.out) | exact HB.out))) : w.heap.size ≤ gb102)); have n5_ := qas ((by rw [hg]; exact Nat.ne_of_lt (blk_lt (g := gb101) (o := .cells #[.string a0_0, .bool a0_1, .slice A0_2 l0_2.length c0_2, .int .i64 a0_3, .int .i64 a0_4, .int .i64 a0_5, .string a0_6, .int .i64 a0_7, .int .i64 a0_8] 39 (0, 0)) (by (with_reducible repeat (first | refine qkA ?_ _ | refine qkB ?_ | refine qkC ?_ _)); exact BK101.out)) : gb101 ≠ gb102)); have n6_ := qas ((by rw [hg]; exact Nat.ne_of_gt (blk_lt (g := gb101) (o := .cells #[.string a0_0, .bool a0_1, .slice A0_2 l0_2.length c0_2, .int .i64 a0_3, .int .i64 a0_4, .int .i64 a0_5, .string a0_6, .int .i64 a0_7, .int .i64 a0_8] 39 (0, 0)) (by (with_reducible repeat (first | refine qkA ?_ _ | refine qkB ?_ | refine qkC ?_ _)); exact BK101.out)) : gb102 ≠ gb101)); clear BK101; clear HB; have BK101 := n0_; have HB := n1_; have BK102 := n2_; have GW102 := n3_; have GE102 := n4_; have NB101_102 := n5_; have NB102_101 := n6_; clear n0_ n1_ n2_ n3_ n4_ n5_ n6_; clear hb hbox hg) | ((with_reducible refine gate_dst (N := 3) rfl ?_); refine Kd.R_lit (Kd.int .i64) _ 3 ?hg (N := 3) ?hd (xs := ([] : List Int)) (inner := []) (ok := fun _ => True) (okp := fun _ => True) ?hr ?hp (fun _ hk => hk) trivial (Below.refl _ _) (Nat.le_refl _) (by simp) ?_; (case hd => rfl); (case hg => rfl); (case hr => first | (go_simp; done) | (go_simp; rfl)); (case hp => exact (Reps.none _ _)); intro v104 w5 ho6 hb hg_ hnew_; clear hg_ hnew_; (first | rw [← Ny103.out] at ho6 | (simp only [Int.reduceToNat] at ho6; rw [← Ny103.out] at ho6)); have n0_ := qas (Kd.R_lower ho6 (below_size (by repeat (first | (with_reducible first | exact HB.out | apply qbA | apply qbB | apply qbC | refine below_set ?_ GE101.out | refine below_set ?_ GE102.out) | exact HB.out)))); have n1_ := qas (blk_below (g := gb101) (o := .cells #[.string a0_0, .bool a0_1, .slice A0_2 l0_2.length c0_2, .int .i64 a0_3, .int .i64 a0_4, .int .i64 a0_5, .string a0_6, .int .i64 a0_7, .int .i64 a0_8] 39 (0, 0)) (by (with_reducible repeat (first | refine qkA ?_ _ | refine qkB ?_ | refine qkC ?_ _)); exact BK101.out) hb); have n2_ := qas (blk_below (g := gb102) (o := .cells #[.string (⟨#[]⟩ : ByteArray), .bool false, .slice none 0 0, .int .i64 0, .int .i64 0, .int .i64 0, .string (⟨#[]⟩ : ByteArray), .int .i64 0, .int .i64 0] 39 (0, 0)) (by (with_reducible repeat (first | refine qkA ?_ _ | refine qkB ?_ | refine qkC ?_ _)); exact BK102.out) hb); have n3_ := qas (below_step (by repeat (first | (with_reducible first | exact HB.out | apply qbA | apply qbB | apply qbC | refine below_set ?_ GE101.out | refine below_set ?_ GE102.out) | exact HB.out)) hb); clear BK101; clear BK102; clear HB; have HO105 := n0_; have BK101 := n1_; have BK102 := n2_; have HB := n3_; clear n0_ n1_ n2_ n3_; clear hb ho6; have hnb7 := NB101_102.out; have hnc7 := NB102_101.out; have hcz8_0 : w5.cell? ⟨gb101, 0, none⟩ = some (.string a0_0) := (blk_cell BK101.out 0).trans rfl; have hcz8_1 : w5.cell? ⟨gb101, 1, none⟩ = some (.bool a0_1) := (blk_cell BK101.out 1).trans rfl; have hcz8_2 : w5.cell? ⟨gb101, 2, none⟩ = some (.slice A0_2 l0_2.length c0_2) := (blk_cell BK101.out 2).trans rfl; have hcz8_3 : w5.cell? ⟨gb101, 3, none⟩ = some (.int .i64 a0_3) := (blk_cell BK101.out 3).trans rfl; have hcz8_4 : w5.cell? ⟨gb101, 4, none⟩ = some (.int .i64 a0_4) := (blk_cell BK101.out 4).trans rfl; have hcz8_5 : w5.cell? ⟨gb101, 5, none⟩ = some (.int .i64 a0_5) := (blk_cell BK101.out 5).trans rfl; have hcz8_6 : w5.cell? ⟨gb101, 6, none⟩ = some (.string a0_6) := (blk_cell BK101.out 6).trans rfl; have hcz8_7 : w5.cell? ⟨gb101, 7, none⟩ = some (.int .i64 a0_7) := (blk_cell BK101.out 7).trans rfl; have hcz8_8 : w5.cell? ⟨gb101, 8, none⟩ = some (.int .i64 a0_8) := (blk_cell BK101.out 8).trans rfl; have hfz8_0 := blk_frozen BK101.out 0; have hfz8_1 := blk_frozen BK101.out 1; have hfz8_2 := blk_frozen BK101.out 2; have hfz8_3 := blk_frozen BK101.out 3; have hfz8_4 := blk_frozen BK101.out 4; have hfz8_5 := blk_frozen BK101.out 5; have hfz8_6 := blk_frozen BK101.out 6; have hfz8_7 := blk_frozen BK101.out 7; have hfz8_8 := blk_frozen BK101.out 8) | ((with_reducible refine gate_builtin (b := .append) (xs := #[.tmp 3, .tmp 5]) rfl ?_); at_builtin; refine Kd.R_append_rows (Kd.int .i64) (w0 := w) w.heap.size rfl (.tmp 3) (.tmp 5) 37 3 (.int .i64 0) 8 rfl Tryd.underlying37 info3 rfl (by decide) (by omega) v104 y103 l0_2 _ _ _ (fun _ => True) (fun _ => False) rfl rfl ?aO ?aR (fun _ _ h => h) (fun _ h => h.elim) ?aF ?aB ?aS ?aL ?_; (case aR => repeat (first | exact (Kd.C_below HR0_2.out HB.out) | (with_reducible refine Kd.C_alloc ?_ _) | (with_reducible refine Kd.C_drewN ?_ _) | (with_reducible refine Kd.C_drew ?_))); (case aB => exact (by repeat (first | (with_reducible first | exact HB.out | apply qbA | apply qbB | apply qbC | refine below_set ?_ GE101.out | refine below_set ?_ GE102.out) | exact HB.out))); (case aF => exact (fun _ _ => trivial)); (case aO => exact (by (with_reducible repeat (first | apply Kd.R_alloc | apply Kd.R_drewN | apply Kd.R_drew)); exact HO105.out)); (case aS => exact (below_size (by repeat (first | (with_reducible first | exact HB.out | apply qbA | apply qbB | apply qbC | refine below_set ?_ GE101.out | refine below_set ?_ GE102.out) | exact HB.out)))); (case aL => have := LMc2.out; omega); intro v107 w9 ho hb hg hat; rw [← Ny106.out] at ho; have n0_ := qas (blk_grown (g := gb101) (o := .cells #[.string a0_0, .bool a0_1, .slice A0_2 l0_2.length c0_2, .int .i64 a0_3, .int .i64 a0_4, .int .i64 a0_5, .string a0_6, .int .i64 a0_7, .int .i64 a0_8] 39 (0, 0)) (by (with_reducible repeat (first | refine qkA ?_ _ | refine qkB ?_ | refine qkC ?_ _)); exact BK101.out) hg (Kd.R_ne HO105.out BK101.out (by decide))); have n1_ := qas (blk_grown (g := gb102) (o := .cells #[.string (⟨#[]⟩ : ByteArray), .bool false, .slice none 0 0, .int .i64 0, .int .i64 0, .int .i64 0, .string (⟨#[]⟩ : ByteArray), .int .i64 0, .int .i64 0] 39 (0, 0)) (by (with_reducible repeat (first | refine qkA ?_ _ | refine qkB ?_ | refine qkC ?_ _)); exact BK102.out) hg (Kd.R_ne HO105.out BK102.out (by decide))); have n2_ := qas (hb); have n3_ := qas (ho); clear BK101; clear BK102; clear HB; clear HO105; have BK101 := n0_; have BK102 := n1_; have HB := n2_; have HO108 := n3_; clear n0_ n1_ n2_ n3_; clear ho hb hg hat; obtain ⟨Ao10, co10, eo10⟩ := Kd.R_slice HO108.out; subst eo10; have hcz11_0 : w9.cell? ⟨gb101, 0, none⟩ = some (.string a0_0) := (blk_cell BK101.out 0).trans rfl; have hcz11_1 : w9.cell? ⟨gb101, 1, none⟩ = some (.bool a0_1) := (blk_cell BK101.out 1).trans rfl; have hcz11_2 : w9.cell? ⟨gb101, 2, none⟩ = some (.slice A0_2 l0_2.length c0_2) := (blk_cell BK101.out 2).trans rfl; have hcz11_3 : w9.cell? ⟨gb101, 3, none⟩ = some (.int .i64 a0_3) := (blk_cell BK101.out 3).trans rfl; have hcz11_4 : w9.cell? ⟨gb101, 4, none⟩ = some (.int .i64 a0_4) := (blk_cell BK101.out 4).trans rfl; have hcz11_5 : w9.cell? ⟨gb101, 5, none⟩ = some (.int .i64 a0_5) := (blk_cell BK101.out 5).trans rfl; have hcz11_6 : w9.cell? ⟨gb101, 6, none⟩ = some (.string a0_6) := (blk_cell BK101.out 6).trans rfl; have hcz11_7 : w9.cell? ⟨gb101, 7, none⟩ = some (.int .i64 a0_7) := (blk_cell BK101.out 7).trans rfl; have hcz11_8 : w9.cell? ⟨gb101, 8, none⟩ = some (.int .i64 a0_8) := (blk_cell BK101.out 8).trans rfl; have hfz11_0 := blk_frozen BK101.out 0; have hfz11_1 := blk_frozen BK101.out 1; have hfz11_2 := blk_frozen BK101.out 2; have hfz11_3 := blk_frozen BK101.out 3; have hfz11_4 := blk_frozen BK101.out 4; have hfz11_5 := blk_frozen BK101.out 5; have hfz11_6 := blk_frozen BK101.out 6; have hfz11_7 := blk_frozen BK101.out 7; have hfz11_8 := blk_frozen BK101.out 8; have hcz12_0 : w9.cell? ⟨gb102, 0, none⟩ = some (.string (⟨#[]⟩ : ByteArray)) := (blk_cell BK102.out 0).trans rfl; have hcz12_1 : w9.cell? ⟨gb102, 1, none⟩ = some (.bool false) := (blk_cell BK102.out 1).trans rfl; have hcz12_2 : w9.cell? ⟨gb102, 2, none⟩ = some (.slice none 0 0) := (blk_cell BK102.out 2).trans rfl; have hcz12_3 : w9.cell? ⟨gb102, 3, none⟩ = some (.int .i64 0) := (blk_cell BK102.out 3).trans rfl; have hcz12_4 : w9.cell? ⟨gb102, 4, none⟩ = some (.int .i64 0) := (blk_cell BK102.out 4).trans rfl; have hcz12_5 : w9.cell? ⟨gb102, 5, none⟩ = some (.int .i64 0) := (blk_cell BK102.out 5).trans rfl; have hcz12_6 : w9.cell? ⟨gb102, 6, none⟩ = some (.string (⟨#[]⟩ : ByteArray)) := (blk_cell BK102.out 6).trans rfl; have hcz12_7 : w9.cell? ⟨gb102, 7, none⟩ = some (.int .i64 0) := (blk_cell BK102.out 7).trans rfl; have hcz12_8 : w9.cell? ⟨gb102, 8, none⟩ = some (.int .i64 0) := (blk_cell BK102.out 8).trans rfl; have hfz12_0 := blk_frozen BK102.out 0; have hfz12_1 := blk_frozen BK102.out 1; have hfz12_2 := blk_frozen BK102.out 2; have hfz12_3 := blk_frozen BK102.out 3; have hfz12_4 := blk_frozen BK102.out 4; have hfz12_5 := blk_frozen BK102.out 5; have hfz12_6 := blk_frozen BK102.out 6; have hfz12_7 := blk_frozen BK102.out 7; have hfz12_8 := blk_frozen BK102.out 8))
 refine bodyPost_ret (results_cell_row rfl _ _ gb102 39 #[.string a0_0, .bool a0_1, .slice Ao10 y106.length co10, .int .i64 a0_3, .int .i64 a0_4, .int .i64 a0_5, .string a0_6, .int .i64 a0_7, .int .i64 a0_8] (0, 0) _ rfl (by (with_reducible repeat (first | refine qkA ?_ _ | refine qkB ?_ | refine qkC ?_ _)); refine blk_put (cs := #[.string a0_0, .bool a0_1, .slice Ao10 y106.length co10, .int .i64 a0_3, .int .i64 a0_4, .int .i64 a0_5, .string a0_6, .int .i64 a0_7, .int .i64 0]) ?_ 8 _ rfl; (with_reducible repeat (first | refine qkA ?_ _ | refine qkB ?_ | refine qkC ?_ _)); refine blk_put (cs := #[.string a0_0, .bool a0_1, .slice Ao10 y106.length co10, .int .i64 a0_3, .int .i64 a0_4, .int .i64 a0_5, .string a0_6, .int .i64 0, .int .i64 0]) ?_ 7 _ rfl; (with_reducible repeat (first | refine qkA ?_ _ | refine qkB ?_ | refine qkC ?_ _)); refine blk_put (cs := #[.string a0_0, .bool a0_1, .slice Ao10 y106.length co10, .int .i64 a0_3, .int .i64 a0_4, .int .i64 a0_5, .string (⟨#[]⟩ : ByteArray), .int .i64 0, .int .i64 0]) ?_ 6 _ rfl; (with_reducible repeat (first | refine qkA ?_ _ | refine qkB ?_ | refine qkC ?_ _)); refine blk_put (cs := #[.string a0_0, .bool a0_1, .slice Ao10 y106.length co10, .int .i64 a0_3, .int .i64 a0_4, .int .i64 0, .string (⟨#[]⟩ : ByteArray), .int .i64 0, .int .i64 0]) ?_ 5 _ rfl; (with_reducible repeat (first | refine qkA ?_ _ | refine qkB ?_ | refine qkC ?_ _)); refine blk_put (cs := #[.string a0_0, .bool a0_1, .slice Ao10 y106.length co10, .int .i64 a0_3, .int .i64 0, .int .i64 0, .string (⟨#[]⟩ : ByteArray), .int .i64 0, .int .i64 0]) ?_ 4 _ rfl; (with_reducible repeat (first | refine qkA ?_ _ | refine qkB ?_ | refine qkC ?_ _)); refine blk_put (cs := #[.string a0_0, .bool a0_1, .slice Ao10 y106.length co10, .int .i64 0, .int .i64 0, .int .i64 0, .string (⟨#[]⟩ : ByteArray), .int .i64 0, .int .i64 0]) ?_ 3 _ rfl; (with_reducible repeat (first | refine qkA ?_ _ | refine qkB ?_ | refine qkC ?_ _)); refine blk_put (cs := #[.string a0_0, .bool a0_1, .slice none 0 0, .int .i64 0, .int .i64 0, .int .i64 0, .string (⟨#[]⟩ : ByteArray), .int .i64 0, .int .i64 0]) ?_ 2 _ rfl; (with_reducible repeat (first | refine qkA ?_ _ | refine qkB ?_ | refine qkC ?_ _)); refine blk_put (cs := #[.string a0_0, .bool false, .slice none 0 0, .int .i64 0, .int .i64 0, .int .i64 0, .string (⟨#[]⟩ : ByteArray), .int .i64 0, .int .i64 0]) ?_ 1 _ rfl; (with_reducible repeat (first | refine qkA ?_ _ | refine qkB ?_ | refine qkC ?_ _)); refine blk_put (cs := #[.string (⟨#[]⟩ : ByteArray), .bool false, .slice none 0 0, .int .i64 0, .int .i64 0, .int .i64 0, .string (⟨#[]⟩ : ByteArray), .int .i64 0, .int .i64 0]) ?_ 0 _ rfl; (with_reducible repeat (first | refine qkA ?_ _ | refine qkB ?_ | refine qkC ?_ _)); refine blk_far ?_ NB102_101.out _; (with_reducible repeat (first | refine qkA ?_ _ | refine qkB ?_ | refine qkC ?_ _)); exact BK102.out) Tryd.underlying39 rfl (by kernel_rfl)) rfl ?_
 exact ⟨_, by first | rfl | (simp [errW_none, errW_some] <;> rfl) | (simp [*, errW_none, errW_some] <;> rfl), by (with_reducible repeat (first | apply Kd.R_alloc | apply Kd.R_drewN | apply Kd.R_drew)); exact Kd.R_mono (Kd.R_far (p := ⟨gb102, 8, none⟩) (Kd.R_far (p := ⟨gb102, 7, none⟩) (Kd.R_far (p := ⟨gb102, 6, none⟩) (Kd.R_far (p := ⟨gb102, 5, none⟩) (Kd.R_far (p := ⟨gb102, 4, none⟩) (Kd.R_far (p := ⟨gb102, 3, none⟩) (Kd.R_far (p := ⟨gb102, 2, none⟩) (Kd.R_far (p := ⟨gb102, 1, none⟩) (Kd.R_far (p := ⟨gb102, 0, none⟩) (Kd.R_far (p := ⟨gb101, 2, none⟩) (Kd.R_types (Kd.R_types HO108.out BK101.out (by decide)) BK102.out (by decide)) (fun _ hk => hk.1.2) (.slice Ao10 y106.length co10)) (fun _ hk => hk.2) (.string a0_0)) (fun _ hk => hk.2) (.bool a0_1)) (fun _ hk => hk.2) (.slice Ao10 y106.length co10)) (fun _ hk => hk.2) (.int .i64 a0_3)) (fun _ hk => hk.2) (.int .i64 a0_4)) (fun _ hk => hk.2) (.int .i64 a0_5)) (fun _ hk => hk.2) (.string a0_6)) (fun _ hk => hk.2) (.int .i64 a0_7)) (fun _ hk => hk.2) (.int .i64 a0_8)) (fun _ hk => trivial), by repeat (first | (with_reducible first | exact HB.out | apply qbA | apply qbB | apply qbC | refine below_set ?_ GE101.out | refine below_set ?_ GE102.out) | exact HB.out)⟩

/-! ### pl_CopyEntries: function 44 -/
def pl_CopyEntries.l0 : Nat → List (S39) → List (S39) → Int → Option ((List (S39)))
 | 0, _, _, _ => none
 | k + 1, x0, x3, x4 => if x4 < (x0.length : Int) then (if 0 ≤ x4 then ((pl_CopyEntry.f ((rd_T39 x0 x4).f0) ((rd_T39 x0 x4).f1) ((rd_T39 x0 x4).f2) ((rd_T39 x0 x4).f3) ((rd_T39 x0 x4).f4) ((rd_T39 x0 x4).f5) ((rd_T39 x0 x4).f6) ((rd_T39 x0 x4).f7) ((rd_T39 x0 x4).f8)).bind fun bt110 => (if x3.length < 1353245080339 then (pl_CopyEntries.l0 k x0 (x3 ++ [(⟨bt110.1, bt110.2.1, bt110.2.2.1, bt110.2.2.2.1, bt110.2.2.2.2.1, bt110.2.2.2.2.2.1, bt110.2.2.2.2.2.2.1, bt110.2.2.2.2.2.2.2.1, bt110.2.2.2.2.2.2.2.2⟩ : S39)]) (wrap64 (x4 + 1))) else (none))) else (none)) else (some x3)
def pl_CopyEntries.f (k : Nat) (l0 : List (S39)) : Option ((List (S39))) := pl_CopyEntries.l0 k l0 ([] : List (S39)) 0
theorem pl_CopyEntries.mono_l : ∀ k, (∀ y0 y1 y2, LeO (pl_CopyEntries.l0 k y0 y1 y2) (pl_CopyEntries.l0 (k + 1) y0 y1 y2))
 | 0 => fun _ _ _ r h => by simp [pl_CopyEntries.l0] at h
 | k + 1 => by
  have ih0 := pl_CopyEntries.mono_l k
  ·intro y0 y1 y2
   unfold pl_CopyEntries.l0
   repeat' first
   | (with_reducible exact ih0 _ _ _)
   | (with_reducible exact LeO.refl _)
   | (with_reducible exact LeO.none _)
   | (with_reducible refine LeO.ite ?_ ?_)
   | (with_reducible refine LeO.bind ?_ (fun _ => ?_))
   | exact ih0 _ _ _
   | exact LeO.none _
   | refine LeO.ite ?_ ?_
   | refine LeO.bind ?_ (fun _ => ?_)
theorem pl_CopyEntries.mono : ∀ a0 k, LeO (pl_CopyEntries.f k a0) (pl_CopyEntries.f (k + 1) a0) := by
 intro a0 k
 have ih0 := pl_CopyEntries.mono_l k
 unfold pl_CopyEntries.f
 repeat' first
   | (with_reducible exact ih0 _ _ _)
   | (with_reducible exact LeO.refl _)
   | (with_reducible exact LeO.none _)
   | (with_reducible refine LeO.ite ?_ ?_)
   | (with_reducible refine LeO.bind ?_ (fun _ => ?_))
   | exact ih0 _ _ _
   | exact LeO.none _
   | refine LeO.ite ?_ ?_
   | refine LeO.bind ?_ (fun _ => ?_)
set_option maxHeartbeats 8000000 in
set_option maxRecDepth 100000 in
theorem pl_CopyEntries.calls (k : Nat) (A0 : Option Addr) (c0 : Nat) (l0 : List (S39)) (r : List (S39)) (w : World) (hr0 : Kd.C k39 w A0 l0.length l0) (hc0 : l0.length ≤ c0) (h : pl_CopyEntries.f k l0 = some r) :
  Calls Tryd.prog 44 #[.slice A0 l0.length c0] w fun e w' => ∃ v0_ : Value, e = .returned (v0_) ∧ Kd.S k39 39 w' w.heap.size (fun _ => True) v0_ r ∧ Below w.heap.size w w' := by
 have hu39 := Tryd.underlying39
 have HR0 := qas hr0
 have HC0 := qas hc0
 clear hr0 hc0
 have HB := qas (Below.refl w.heap.size w)
 have H : (pl_CopyEntries.l0 k l0 ([] : List (S39)) 0) = some r := h
 clear h
 have H' := qas H
 clear H
 go_enter Tryd.func44, Tryd.ntmps44
 go_wp2
 go_loopg [3, 4] k (fun kq v3 v4 w' => ∃ (x3_1 : List (S39)) (x4_1 : Int), v4 = .int .i64 x4_1 ∧ Aside0 (pl_CopyEntries.l0 kq l0 x3_1 x4_1 = some r) ∧ Aside0 (kq ≤ k) ∧ Aside0 (Kd.S k39 39 w' w.heap.size (fun _ => True) v3 x3_1) ∧ Aside0 (Below w.heap.size w w'))
 case atStart => exact ⟨(([] : List (S39))), (0), (by first | rfl | (simp; done) | (simp [*]; done)), H', ⟨Nat.le_refl _⟩, ⟨by first | exact Kd.S_nil _ _ _ _ _ | exact Kd.N_nil _ _ _ _ _ | exact Kd.V_nil _ _ _ _ _ | exact Kd.Q_nil _ _ _ _ _ | exact Kd.R_nil _ _ _ _ _⟩, ⟨by repeat (first | (with_reducible first | exact HB.out | apply qbA | apply qbB | apply qbC) | exact HB.out)⟩⟩
 case round =>
  clear H'
  obtain ⟨x3_1, x4_1, rfl, HA, HK1, HO_3, HB⟩ := hrel
  cases gk with
  | zero => exact absurd HA.out (by simp [pl_CopyEntries.l0])
  | succ k1 =>
   have H := HA.out
   clear HA
   simp only [pl_CopyEntries.l0] at H
   by_cases c2 : x4_1 < (l0.length : Int)
   rotate_left
   ·rw [if_neg c2] at H
    have c2b0 : decide (x4_1 < (l0.length : Int)) = false := decide_eq_false c2
    clear c2
    obtain rfl := Option.some.inj H
    go_wp2
    go_ret
    exact ⟨_, by first | rfl | (simp [errW_none, errW_some] <;> rfl) | (simp [*, errW_none, errW_some] <;> rfl), by (with_reducible repeat (first | apply Kd.S_alloc | apply Kd.S_drewN | apply Kd.S_drew)); exact HO_3.out, by repeat (first | (with_reducible first | exact HB.out | apply qbA | apply qbB | apply qbC) | exact HB.out)⟩
   rw [if_pos c2] at H
   have c2b0 : decide (x4_1 < (l0.length : Int)) = true := decide_eq_true c2
   clear c2
   by_cases c3 : 0 ≤ x4_1
   rotate_left
   ·rw [if_neg c3] at H
    exact absurd H (by simp)
   rw [if_pos c3] at H
   have c3b0 : decide (0 ≤ x4_1) = true := decide_eq_true c3
   clear c3
   replace H := Option.bind_eq_some_iff.mp H
   obtain ⟨⟨t110, t111, t112, t115, t116, t117, t118, t119, t120⟩, A40, H⟩ := H
   replace H : (if x3_1.length < 1353245080339 then (pl_CopyEntries.l0 k1 l0 (x3_1 ++ [(⟨t110, t111, t112, t115, t116, t117, t118, t119, t120⟩ : S39)]) (wrap64 (x4_1 + 1))) else (none)) = some r := H
   have A4 := qas A40
   clear A40
   by_cases c5 : x3_1.length < 1353245080339
   rotate_left
   ·rw [if_neg c5] at H
    exact absurd H (by simp)
   rw [if_pos c5] at H
   have LMc5 := qas c5
   clear c5
   obtain ⟨y121, hy121⟩ : ∃ y_ : List (S39), y_ = (x3_1 ++ [(⟨t110, t111, t112, t115, t116, t117, t118, t119, t120⟩ : S39)]) := ⟨_, rfl⟩
   replace H : (pl_CopyEntries.l0 k1 l0 y121 (wrap64 (x4_1 + 1))) = some r := by first | (rw [hy121]; with_reducible exact H) | (have H2_ := (Option.bind_some _ _).symm.trans H; rw [hy121]; with_reducible exact H2_) | (have H2_ := (Option.bind_some _ _).symm.trans H; with_reducible exact H2_) | with_reducible exact H | (rw [hy121]; exact H) | exact H
   have Ny121 := qas hy121
   clear hy121
   have H' := qas H
   clear H
   have p109 : 0 ≤ (x4_1 : Int) := qde (by first | (with_reducible assumption) | assumption)
   have q109 : x4_1 < (l0.length : Int) := qde (by first | (with_reducible assumption) | assumption)
   obtain ⟨ad109, A109_2, c109_2, e109, hx109_0, hx109_1, hx109_2, hx109_3, hx109_4, hx109_5, hx109_6, hx109_7, hx109_8, hl109_2, hi109_2⟩ := at_T39 HR0.out x4_1 p109 q109
   cases e109
   replace hx109_0 := (HB.out.cell (qbl w _ hx109_0)).trans hx109_0
   replace hx109_1 := (HB.out.cell (qbl w _ hx109_1)).trans hx109_1
   replace hx109_2 := (HB.out.cell (qbl w _ hx109_2)).trans hx109_2
   replace hx109_3 := (HB.out.cell (qbl w _ hx109_3)).trans hx109_3
   replace hx109_4 := (HB.out.cell (qbl w _ hx109_4)).trans hx109_4
   replace hx109_5 := (HB.out.cell (qbl w _ hx109_5)).trans hx109_5
   replace hx109_6 := (HB.out.cell (qbl w _ hx109_6)).trans hx109_6
   replace hx109_7 := (HB.out.cell (qbl w _ hx109_7)).trans hx109_7
   replace hx109_8 := (HB.out.cell (qbl w _ hx109_8)).trans hx109_8
   have HR109_2 := qas hi109_2
   have HC109_2 := qas hl109_2
   clear hi109_2 hl109_2
   replace p109 := eq_true p109
   replace q109 := eq_true q109
   go_wp2_with (first | ((with_reducible refine gate_callee (f := 78) rfl ?_); refine goesL_ (some 16) rfl rfl Tryd.func78 (by kernel_rfl) rfl #[.agg #[.string ((rd_T39 l0 x4_1).f0), .bool ((rd_T39 l0 x4_1).f1), .slice A109_2 ((rd_T39 l0 x4_1).f2).length c109_2, .int .i64 ((rd_T39 l0 x4_1).f3), .int .i64 ((rd_T39 l0 x4_1).f4), .int .i64 ((rd_T39 l0 x4_1).f5), .string ((rd_T39 l0 x4_1).f6), .int .i64 ((rd_T39 l0 x4_1).f7), .int .i64 ((rd_T39 l0 x4_1).f8)]] rfl (by (try simp only [List.map_toArray, List.map_cons, List.map_nil]); first | done | rfl | (simp only [List.length_drop, List.length_take]; rfl)) ?_; (with_reducible refine (pl_CopyEntry.calls ((rd_T39 l0 x4_1).f0) ((rd_T39 l0 x4_1).f1) _ _ ((rd_T39 l0 x4_1).f2) ((rd_T39 l0 x4_1).f3) ((rd_T39 l0 x4_1).f4) ((rd_T39 l0 x4_1).f5) ((rd_T39 l0 x4_1).f6) ((rd_T39 l0 x4_1).f7) ((rd_T39 l0 x4_1).f8) t110 t111 t112 t115 t116 t117 t118 t119 t120 _ ?side1 ?side2 A4.out).mono ?_); (case side1 => repeat (first | exact (Kd.C_below HR109_2.out HB.out) | (with_reducible refine Kd.C_alloc ?_ _) | (with_reducible refine Kd.C_drewN ?_ _) | (with_reducible refine Kd.C_drew ?_))); (case side2 => exact HC109_2.out); rintro e w6 ⟨v113, rfl, ho0, hb⟩; refine ⟨_, rfl, ?_⟩; have n0_ := qas (Kd.S_elder' (by (with_reducible repeat (first | apply Kd.S_alloc | apply Kd.S_drewN | apply Kd.S_drew)); exact HO_3.out) (Kd.R_base ho0) hb); have n1_ := qas (Kd.R_lower ho0 (below_size (by repeat (first | (with_reducible first | exact HB.out | apply qbA | apply qbB | apply qbC) | exact HB.out)))); have n2_ := qas (below_step (by repeat (first | (with_reducible first | exact HB.out | apply qbA | apply qbB | apply qbC) | exact HB.out)) hb); clear HO_3; clear HB; have HO_3 := n0_; have HO114 := n1_; have HB := n2_; clear n0_ n1_ n2_; (try clear hb); (try clear hb2); (try clear hk); (try clear hi); (try clear ho0); obtain ⟨Ao8, co8, eo8⟩ := Kd.R_slice HO114.out; subst eo8) | ((with_reducible refine gate_builtin (b := .append) (xs := #[.tmp 11, .tmp 17]) rfl ?_); at_builtin; refine Kd.S_append k39 (w0 := w) w.heap.size rfl (.tmp 11) (.tmp 17) 22 39 (.agg #[(.string ⟨#[]⟩), (.bool false), (.slice none 0 0), (.int .i64 0), (.int .i64 0), (.int .i64 0), (.string ⟨#[]⟩), (.int .i64 0), (.int .i64 0)]) 104 rfl Tryd.underlying22 info39 rfl (by decide) (by omega) u3 x3_1 (⟨t110, t111, t112, t115, t116, t117, t118, t119, t120⟩ : S39) [.string t110, .bool t111, .slice Ao8 t112.length co8, .int .i64 t115, .int .i64 t116, .int .i64 t117, .string t118, .int .i64 t119, .int .i64 t120] (fun _ => True) (fun k_ => some k_ = (.slice Ao8 t112.length co8 : Value).ownBlock) rfl rfl ?aP (fun k_ hk_ => ((Kd.R_mono (ok' := fun k_ => ((fun _ => True)) k_ ∧ some k_ ≠ (u3 : Value).ownBlock) (Kd.R_apart' (HO114.out) (Kd.S_typed HO_3.out) (by decide)) (fun k_ hk => ⟨trivial, hk.2⟩))).1 k_ hk_.symm) ?aF ?aO ?aB ?aS ?aL ?_; (case aP => exact k39_mkM _ _ _ (⟨t110, t111, t112, t115, t116, t117, t118, t119, t120⟩ : S39) (Kd.R_mono (Kd.R_tight rfl (Kd.R_mono (ok' := fun k_ => ((fun _ => True)) k_ ∧ some k_ ≠ (u3 : Value).ownBlock) (Kd.R_apart' (HO114.out) (Kd.S_typed HO_3.out) (by decide)) (fun k_ hk => ⟨trivial, hk.2⟩))) (fun _ h_ => h_))); (case aB => exact (by repeat (first | (with_reducible first | exact HB.out | apply qbA | apply qbB | apply qbC) | exact HB.out))); (case aF => exact (fun _ _ => trivial)); (case aO => exact (by (with_reducible repeat (first | apply Kd.S_alloc | apply Kd.S_drewN | apply Kd.S_drew)); exact Kd.S_mono HO_3.out (fun k_ hk => ⟨trivial, fun e_ => hk.2 e_⟩))); (case aS => exact (below_size (by repeat (first | (with_reducible first | exact HB.out | apply qbA | apply qbB | apply qbC) | exact HB.out)))); (case aL => have := LMc5.out; omega); intro v122 w7 ho hb hg hat; rw [← Ny121.out] at ho; have n0_ := qas (hb); have n1_ := qas (ho); clear HB; clear HO_3; clear HO114; have HB := n0_; have HO123 := n1_; clear n0_ n1_; clear ho hb hg hat))
   go_roundg k1
   case measure => have := HK1.out; omega
   case rel => exact ⟨(y121), (wrap64 (x4_1 + 1)), (by first | rfl | (simp; done) | (simp [*]; done)), H', ⟨by have := HK1.out; omega⟩, ⟨by (with_reducible repeat (first | apply Kd.S_alloc | apply Kd.S_drewN | apply Kd.S_drew)); exact HO123.out⟩, ⟨by repeat (first | (with_reducible first | exact HB.out | apply qbA | apply qbB | apply qbC) | exact HB.out)⟩⟩

/-! ### pl_CopyFolder: function 16 -/
def pl_CopyFolder.f (k : Nat) (l0_0 : List (S39)) : Option ((List (S39))) := (pl_CopyEntries.f k l0_0).bind fun t126 => (some t126)
theorem pl_CopyFolder.mono : ∀ a0 k, LeO (pl_CopyFolder.f k a0) (pl_CopyFolder.f (k + 1) a0) := by
 intro a0 k
 unfold pl_CopyFolder.f
 repeat' first
   | (with_reducible exact pl_CopyEntries.mono _ _)
   | (with_reducible exact LeO.refl _)
   | (with_reducible exact LeO.none _)
   | (with_reducible refine LeO.ite ?_ ?_)
   | (with_reducible refine LeO.bind ?_ (fun _ => ?_))
   | exact pl_CopyEntries.mono _ _
   | exact LeO.none _
   | refine LeO.ite ?_ ?_
   | refine LeO.bind ?_ (fun _ => ?_)
set_option maxHeartbeats 8000000 in
set_option maxRecDepth 100000 in
theorem pl_CopyFolder.calls (k : Nat) (A0_0 : Option Addr) (c0_0 : Nat) (l0_0 : List (S39)) (r : List (S39)) (w : World) (hr0_0 : Kd.C k39 w A0_0 l0_0.length l0_0) (hc0_0 : l0_0.length ≤ c0_0) (h : pl_CopyFolder.f k l0_0 = some r) :
  Calls Tryd.prog 16 #[.agg #[.slice A0_0 l0_0.length c0_0]] w fun e w' => ∃ v0_ : Value, e = .returned (.agg #[v0_]) ∧ Kd.S k39 39 w' w.heap.size (fun _ => True) v0_ r ∧ Below w.heap.size w w' := by
 have hu24 := Tryd.underlying24
 have HR0_0 := qas hr0_0
 have HC0_0 := qas hc0_0
 clear hr0_0 hc0_0
 have HB := qas (Below.refl w.heap.size w)
 have H : ((pl_CopyEntries.f k l0_0).bind fun t126 => (some t126)) = some r := h
 clear h
 replace H := Option.bind_eq_some_iff.mp H
 obtain ⟨t126, A20, H⟩ := H
 replace H : (some t126) = some r := H
 have A2 := qas A20
 clear A20
 obtain rfl := Option.some.inj H
 go_enter Tryd.func16, Tryd.ntmps16
 go_wp2_with (first | ((with_reducible refine gate_dst (N := 1) rfl ?_); refine box_event ?hg (N := 1) ?hd (cs := #[.slice A0_0 l0_0.length c0_0]) (t := 24) ?hr ?_; (case hd => rfl); (case hg => rfl); (case hr => first | (go_simp; done) | (go_simp; rfl)); intro gb124 hg w3 hbox hb; have n0_ := qas (below_step (by repeat (first | (with_reducible first | exact HB.out | apply qbA | apply qbB | apply qbC) | exact HB.out)) hb); have n1_ := qas (hbox); have n2_ := qas ((by rw [hg]; exact (below_size (by repeat (first | (with_reducible first | exact HB.out | apply qbA | apply qbB | apply qbC) | exact HB.out))) : w.heap.size ≤ gb124)); have n3_ := qas ((by rw [hg]; exact (below_size (by repeat (first | (with_reducible first | exact HB.out | apply qbA | apply qbB | apply qbC) | exact HB.out))) : w.heap.size ≤ gb124)); clear HB; have HB := n0_; have BK124 := n1_; have GW124 := n2_; have GE124 := n3_; clear n0_ n1_ n2_ n3_; clear hb hbox hg) | ((with_reducible refine gate_dst (N := 2) rfl ?_); refine box_event ?hg (N := 2) ?hd (cs := #[.slice none 0 0]) (t := 24) ?hr ?_; (case hd => rfl); (case hg => rfl); (case hr => first | (go_simp; done) | (go_simp; rfl)); intro gb125 hg w4 hbox hb; have n0_ := qas (blk_below (g := gb124) (o := .cells #[.slice A0_0 l0_0.length c0_0] 24 (0, 0)) (by (with_reducible repeat (first | refine qkA ?_ _ | refine qkB ?_ | refine qkC ?_ _)); exact BK124.out) hb); have n1_ := qas (below_step (by repeat (first | (with_reducible first | exact HB.out | apply qbA | apply qbB | apply qbC | refine below_set ?_ GE124.out) | exact HB.out)) hb); have n2_ := qas (hbox); have n3_ := qas ((by rw [hg]; exact (below_size (by repeat (first | (with_reducible first | exact HB.out | apply qbA | apply qbB | apply qbC | refine below_set ?_ GE124.out) | exact HB.out))) : w.heap.size ≤ gb125)); have n4_ := qas ((by rw [hg]; exact (below_size (by repeat (first | (with_reducible first | exact HB.out | apply qbA | apply qbB | apply qbC | refine below_set ?_ GE124.out) | exact HB.out))) : w.heap.size ≤ gb125)); have n5_ := qas ((by rw [hg]; exact Nat.ne_of_lt (blk_lt (g := gb124) (o := .cells #[.slice A0_0 l0_0.length c0_0] 24 (0, 0)) (by (with_reducible repeat (first | refine qkA ?_ _ | refine qkB ?_ | refine qkC ?_ _)); exact BK124.out)) : gb124 ≠ gb125)); have n6_ := qas ((by rw [hg]; exact Nat.ne_of_gt (blk_lt (g := gb124) (o := .cells #[.slice A0_0 l0_0.length c0_0] 24 (0, 0)) (by (with_reducible repeat (first | refine qkA ?_ _ | refine qkB ?_ | refine qkC ?_ _)); exact BK124.out)) : gb125 ≠ gb124)); clear BK124; clear HB; have BK124 := n0_; have HB := n1_; have BK125 := n2_; have GW125 := n3_; have GE125 := n4_; have NB124_125 := n5_; have NB125_124 := n6_; clear n0_ n1_ n2_ n3_ n4_ n5_ n6_; clear hb hbox hg; have hnb5 := NB124_125.out; have hnc5 := NB125_124.out; have hcz6_0 : w4.cell? ⟨gb124, 0, none⟩ = some (.slice A0_0 l0_0.length c0_0) := (blk_cell BK124.out 0).trans rfl; have hfz6_0 := blk_frozen BK124.out 0) | ((with_reducible refine gate_callee (f := 44) rfl ?_); refine goesL_ (some 5) rfl rfl Tryd.func44 (by kernel_rfl) rfl #[.slice A0_0 l0_0.length c0_0] rfl (by (try simp only [List.map_toArray, List.map_cons, List.map_nil]); first | done | rfl | (simp only [List.length_drop, List.length_take]; rfl)) ?_; (with_reducible refine (pl_CopyEntries.calls k _ _ l0_0 t126 _ ?side1 ?side2 A2.out).mono ?_); (case side1 => repeat (first | exact (Kd.C_below HR0_0.out HB.out) | (with_reducible refine Kd.C_alloc ?_ _) | (with_reducible refine Kd.C_drewN ?_ _) | (with_reducible refine Kd.C_drew ?_))); (case side2 => exact HC0_0.out); rintro e w7 ⟨v127, rfl, ho0, hb⟩; refine ⟨_, rfl, ?_⟩; have n0_ := qas (Kd.S_lower ho0 (below_size (by repeat (first | (with_reducible first | exact HB.out | apply qbA | apply qbB | apply qbC | refine below_set ?_ GE124.out | refine below_set ?_ GE125.out) | exact HB.out)))); have n1_ := qas (blk_below (g := gb124) (o := .cells #[.slice A0_0 l0_0.length c0_0] 24 (0, 0)) (by (with_reducible repeat (first | refine qkA ?_ _ | refine qkB ?_ | refine qkC ?_ _)); exact BK124.out) hb); have n2_ := qas (blk_below (g := gb125) (o := .cells #[.slice none 0 0] 24 (0, 0)) (by (with_reducible repeat (first | refine qkA ?_ _ | refine qkB ?_ | refine qkC ?_ _)); exact BK125.out) hb); have n3_ := qas (below_step (by repeat (first | (with_reducible first | exact HB.out | apply qbA | apply qbB | apply qbC | refine below_set ?_ GE124.out | refine below_set ?_ GE125.out) | exact HB.out)) hb); clear BK124; clear BK125; clear HB; have HO128 := n0_; have BK124 := n1_; have BK125 := n2_; have HB := n3_; clear n0_ n1_ n2_ n3_; (try clear hb); (try clear hb2); (try clear hk); (try clear hi); (try clear ho0); obtain ⟨Ao8, co8, eo8⟩ := Kd.S_slice HO128.out; subst eo8; have hcz9_0 : w7.cell? ⟨gb125, 0, none⟩ = some (.slice none 0 0) := (blk_cell BK125.out 0).trans rfl; have hfz9_0 := blk_frozen BK125.out 0))
 refine bodyPost_ret (results_cell_row rfl _ _ gb125 24 #[.slice Ao8 t126.length co8] (0, 0) _ rfl (by (with_reducible repeat (first | refine qkA ?_ _ | refine qkB ?_ | refine qkC ?_ _)); refine blk_put (cs := #[.slice none 0 0]) ?_ 0 _ rfl; (with_reducible repeat (first | refine qkA ?_ _ | refine qkB ?_ | refine qkC ?_ _)); exact BK125.out) Tryd.underlying24 rfl (by kernel_rfl)) rfl ?_
 exact ⟨_, by first | rfl | (simp [errW_none, errW_some] <;> rfl) | (simp [*, errW_none, errW_some] <;> rfl), by (with_reducible repeat (first | apply Kd.S_alloc | apply Kd.S_drewN | apply Kd.S_drew)); exact Kd.S_mono (Kd.S_far (p := ⟨gb125, 0, none⟩) (Kd.S_types HO128.out BK125.out (by decide)) (fun _ hk => hk.2) (.slice Ao8 t126.length co8)) (fun _ hk => trivial), by repeat (first | (with_reducible first | exact HB.out | apply qbA | apply qbB | apply qbC | refine below_set ?_ GE124.out | refine below_set ?_ GE125.out) | exact HB.out)⟩

attribute [local go_sem] max2_int min2_int max_two min_two max_three min_three max_four min_four   -- for this text's walks alone
set_option linter.unusedVariables false
set_option linter.unusedSimpArgs false

/-! ### zipput_May: function 22 -/
-- IMPORT Derived.Test.YtneogampbohfnaaDoorZipU
def zipput_May.f (l0_0 : List (S39)) : Option Bool := if l0_0.length ≤ 9223372036854775807 then some (ZipW.mayL l0_0) else none
theorem zipput_May.calls (A0_0 : Option Addr) (c0_0 : Nat) (l0_0 : List (S39)) (r : Bool) (w : World) (hr0_0 : Kd.C k39 w A0_0 l0_0.length l0_0) (hc0_0 : l0_0.length ≤ c0_0) (h : zipput_May.f l0_0 = some r) :
  Calls Tryd.prog 22 #[.agg #[.slice A0_0 l0_0.length c0_0]] w fun e w' => e = .returned (.bool r) ∧ Below w.heap.size w w' := by
 unfold zipput_May.f at h
 by_cases h1 : l0_0.length ≤ 9223372036854775807
 rotate_left
 ·rw [if_neg h1] at h
  exact absurd h (by simp)
 rw [if_pos h1] at h
 have h2 := Option.some.inj h
 subst h2
 exact ZipW.may_walk A0_0 c0_0 l0_0 w hr0_0 hc0_0 h1

-- NOT PRINTED: function 45 (zipput_size)

attribute [local go_sem] max2_int min2_int max_two min_two max_three min_three max_four min_four   -- for this text's walks alone
set_option linter.unusedVariables false
set_option linter.unusedSimpArgs false

-- NOT PRINTED: function 50 (zipput_writer_names)

/-! ### zipput_Put: function 17 -/
-- IMPORT Derived.Test.YtneogampbohfnaaDoorZipU
def zipput_Put.f (l0_0 : List (S39)) : Option (ByteArray × Int) := if l0_0.length ≤ 9223372036854775807 then some (ZipW.putR l0_0) else none
theorem zipput_Put.calls (A0_0 : Option Addr) (c0_0 : Nat) (l0_0 : List (S39)) (r1 : ByteArray) (r2 : Int) (w : World) (hr0_0 : Kd.C k39 w A0_0 l0_0.length l0_0) (hc0_0 : l0_0.length ≤ c0_0) (h : zipput_Put.f l0_0 = some (r1, r2)) :
  Calls Tryd.prog 17 #[.agg #[.slice A0_0 l0_0.length c0_0]] w fun e w' => e = .returned (.tuple #[.string r1, .int .i64 r2]) ∧ Below w.heap.size w w' := by
 unfold zipput_Put.f at h
 by_cases h1 : l0_0.length ≤ 9223372036854775807
 rotate_left
 ·rw [if_neg h1] at h
  exact absurd h (by simp)
 rw [if_pos h1] at h
 have h2 := Option.some.inj h
 have e1 : (ZipW.putR l0_0).1 = r1 := by rw [h2]
 have e2 : (ZipW.putR l0_0).2 = r2 := by rw [h2]
 subst e1
 subst e2
 exact ZipW.put_walk A0_0 c0_0 l0_0 w hr0_0 hc0_0 h1

/-! ### pr_VecMay: function 101 -/
def pr_VecMay.l0 : Nat → List Int → Int → Option (Bool)
 | 0, _, _ => none
 | k + 1, x0, x3 => if x3 < (x0.length : Int) then (if 0 ≤ x3 then (if (rd x0 x3) < 0 then (some false) else (if (rd x0 x3) > 1048576 then (some false) else (pr_VecMay.l0 k x0 (wrap64 (x3 + 1))))) else (none)) else (some ((x0.length : Int) == 4))
def pr_VecMay.f (k : Nat) (l0 : List Int) : Option (Bool) := pr_VecMay.l0 k l0 0
theorem pr_VecMay.mono_l : ∀ k, (∀ y0 y1, LeO (pr_VecMay.l0 k y0 y1) (pr_VecMay.l0 (k + 1) y0 y1))
 | 0 => fun _ _ r h => by simp [pr_VecMay.l0] at h
 | k + 1 => by
  have ih0 := pr_VecMay.mono_l k
  ·intro y0 y1
   unfold pr_VecMay.l0
   repeat' first
   | (with_reducible exact ih0 _ _)
   | (with_reducible exact LeO.refl _)
   | (with_reducible exact LeO.none _)
   | (with_reducible refine LeO.ite ?_ ?_)
   | (with_reducible refine LeO.bind ?_ (fun _ => ?_))
   | exact ih0 _ _
   | exact LeO.none _
   | refine LeO.ite ?_ ?_
   | refine LeO.bind ?_ (fun _ => ?_)
theorem pr_VecMay.mono : ∀ a0 k, LeO (pr_VecMay.f k a0) (pr_VecMay.f (k + 1) a0) := by
 intro a0 k
 have ih0 := pr_VecMay.mono_l k
 unfold pr_VecMay.f
 repeat' first
   | (with_reducible exact ih0 _ _)
   | (with_reducible exact LeO.refl _)
   | (with_reducible exact LeO.none _)
   | (with_reducible refine LeO.ite ?_ ?_)
   | (with_reducible refine LeO.bind ?_ (fun _ => ?_))
   | exact ih0 _ _
   | exact LeO.none _
   | refine LeO.ite ?_ ?_
   | refine LeO.bind ?_ (fun _ => ?_)
set_option maxHeartbeats 8000000 in
set_option maxRecDepth 100000 in
theorem pr_VecMay.calls (k : Nat) (A0 : Option Addr) (c0 : Nat) (l0 : List Int) (r : Bool) (w : World) (hr0 : Kd.C (Kd.int .i64) w A0 l0.length l0) (hc0 : l0.length ≤ c0) (h : pr_VecMay.f k l0 = some r) :
  Calls Tryd.prog 101 #[.slice A0 l0.length c0] w fun e w' => e = .returned (.bool r) ∧ Drawn0 w w' := by
 have HR0 := qas hr0
 have HC0 := qas hc0
 clear hr0 hc0
 have H : (pr_VecMay.l0 k l0 0) = some r := h
 clear h
 have H' := qas H
 clear H
 go_enter Tryd.func101, Tryd.ntmps101
 go_wp2
 go_loopg [3] k (fun kq v3 w' => ∃ (x3_1 : Int), v3 = .int .i64 x3_1 ∧ Aside0 (pr_VecMay.l0 kq l0 x3_1 = some r) ∧ Aside0 (kq ≤ k) ∧ Drawn0 w w')
 case atStart => exact ⟨(0), (by first | rfl | (simp; done) | (simp [*]; done)), H', ⟨Nat.le_refl _⟩, by repeat (first | exact Drawn0.refl _ | apply Drawn0.step)⟩
 case round =>
  clear H'
  try clear c1
  obtain ⟨x3_1, rfl, HA, HK1, ⟨m1, rfl⟩⟩ := hrel
  cases gk with
  | zero => exact absurd HA.out (by simp [pr_VecMay.l0])
  | succ k1 =>
   have H := HA.out
   clear HA
   simp only [pr_VecMay.l0] at H
   by_cases c2 : x3_1 < (l0.length : Int)
   rotate_left
   ·rw [if_neg c2] at H
    have c2b0 : decide (x3_1 < (l0.length : Int)) = false := decide_eq_false c2
    clear c2
    obtain rfl := Option.some.inj H
    go_wp2
    go_ret
    exact ⟨by first | rfl | (simp; done) | (simp [*]; done), by repeat (first | exact Drawn0.refl _ | apply Drawn0.step)⟩
   rw [if_pos c2] at H
   have c2b0 : decide (x3_1 < (l0.length : Int)) = true := decide_eq_true c2
   clear c2
   by_cases c3 : 0 ≤ x3_1
   rotate_left
   ·rw [if_neg c3] at H
    exact absurd H (by simp)
   rw [if_pos c3] at H
   have c3b0 : decide (0 ≤ x3_1) = true := decide_eq_true c3
   clear c3
   by_cases c4 : (rd l0 x3_1) < 0
   ·rw [if_pos c4] at H
    have c4b0 : decide ((rd l0 x3_1) < 0) = true := decide_eq_true c4
    clear c4
    obtain rfl := Option.some.inj H
    have p158 : 0 ≤ (x3_1 : Int) := qde (by first | (with_reducible assumption) | assumption)
    have q158 : x3_1 < (l0.length : Int) := qde (by first | (with_reducible assumption) | assumption)
    obtain ⟨ad158, e158, hx158_0⟩ := Kd.at_int HR0.out x3_1 p158 q158
    cases e158
    replace p158 := eq_true p158
    replace q158 := eq_true q158
    go_wp2
    go_ret
    exact ⟨by first | rfl | (simp; done) | (simp [*]; done), by repeat (first | exact Drawn0.refl _ | apply Drawn0.step)⟩
   rw [if_neg c4] at H
   have c4b0 : decide ((rd l0 x3_1) < 0) = false := decide_eq_false c4
   clear c4
   by_cases c5 : (rd l0 x3_1) > 1048576
   ·rw [if_pos c5] at H
    have c5b0 : decide (1048576 < (rd l0 x3_1)) = true := decide_eq_true c5
    clear c5
    obtain rfl := Option.some.inj H
    have p158 : 0 ≤ (x3_1 : Int) := qde (by first | (with_reducible assumption) | assumption)
    have q158 : x3_1 < (l0.length : Int) := qde (by first | (with_reducible assumption) | assumption)
    obtain ⟨ad158, e158, hx158_0⟩ := Kd.at_int HR0.out x3_1 p158 q158
    cases e158
    replace p158 := eq_true p158
    replace q158 := eq_true q158
    have p159 : 0 ≤ (x3_1 : Int) := qde (by first | (with_reducible assumption) | assumption)
    have q159 : x3_1 < (l0.length : Int) := qde (by first | (with_reducible assumption) | assumption)
    obtain ⟨ad159, e159, hx159_0⟩ := Kd.at_int HR0.out x3_1 p159 q159
    obtain rfl : ad158 = ad159 := (by injection e159)
    replace p159 := eq_true p159
    replace q159 := eq_true q159
    go_wp2
    go_ret
    exact ⟨by first | rfl | (simp; done) | (simp [*]; done), by repeat (first | exact Drawn0.refl _ | apply Drawn0.step)⟩
   rw [if_neg c5] at H
   have c5b0 : decide (1048576 < (rd l0 x3_1)) = false := decide_eq_false c5
   clear c5
   have H' := qas H
   clear H
   have p158 : 0 ≤ (x3_1 : Int) := qde (by first | (with_reducible assumption) | assumption)
   have q158 : x3_1 < (l0.length : Int) := qde (by first | (with_reducible assumption) | assumption)
   obtain ⟨ad158, e158, hx158_0⟩ := Kd.at_int HR0.out x3_1 p158 q158
   cases e158
   replace p158 := eq_true p158
   replace q158 := eq_true q158
   have p159 : 0 ≤ (x3_1 : Int) := qde (by first | (with_reducible assumption) | assumption)
   have q159 : x3_1 < (l0.length : Int) := qde (by first | (with_reducible assumption) | assumption)
   obtain ⟨ad159, e159, hx159_0⟩ := Kd.at_int HR0.out x3_1 p159 q159
   obtain rfl : ad158 = ad159 := (by injection e159)
   replace p159 := eq_true p159
   replace q159 := eq_true q159
   go_wp2
   go_roundg k1
   case measure => have := HK1.out; omega
   case rel => exact ⟨(wrap64 (x3_1 + 1)), (by first | rfl | (simp; done) | (simp [*]; done)), H', ⟨by have := HK1.out; omega⟩, by repeat (first | exact Drawn0.refl _ | apply Drawn0.step)⟩

/-! ### pr_headMay: function 82 -/
def pr_headMay.f (k : Nat) (a0_0 : ByteArray) (a0_1 : Bool) (l0_2 : List Int) (a0_3 : Int) (a0_4 : Int) (a0_5 : Int) (a0_6 : ByteArray) (a0_7 : Int) (a0_8 : Int) : Option (Bool) := (pr_VecMay.f k l0_2).bind fun t161 => (if t161 = true then (if a0_3 ≥ 1 then (if a0_3 ≤ 1048576 then (if a0_4 ≥ 0 then (some (decide (a0_4 < 4))) else (some false)) else (some false)) else (some false)) else (some false))
theorem pr_headMay.mono : ∀ a0 a1 a2 a3 a4 a5 a6 a7 a8 k, LeO (pr_headMay.f k a0 a1 a2 a3 a4 a5 a6 a7 a8) (pr_headMay.f (k + 1) a0 a1 a2 a3 a4 a5 a6 a7 a8) := by
 intro a0 a1 a2 a3 a4 a5 a6 a7 a8 k
 unfold pr_headMay.f
 repeat' first
   | (with_reducible exact pr_VecMay.mono _ _)
   | (with_reducible exact LeO.refl _)
   | (with_reducible exact LeO.none _)
   | (with_reducible refine LeO.ite ?_ ?_)
   | (with_reducible refine LeO.bind ?_ (fun _ => ?_))
   | exact pr_VecMay.mono _ _
   | exact LeO.none _
   | refine LeO.ite ?_ ?_
   | refine LeO.bind ?_ (fun _ => ?_)
set_option maxHeartbeats 8000000 in
set_option maxRecDepth 100000 in
theorem pr_headMay.calls (k : Nat) (a0_0 : ByteArray) (a0_1 : Bool) (A0_2 : Option Addr) (c0_2 : Nat) (l0_2 : List Int) (a0_3 : Int) (a0_4 : Int) (a0_5 : Int) (a0_6 : ByteArray) (a0_7 : Int) (a0_8 : Int) (r : Bool) (w : World) (hr0_2 : Kd.C (Kd.int .i64) w A0_2 l0_2.length l0_2) (hc0_2 : l0_2.length ≤ c0_2) (h : pr_headMay.f k a0_0 a0_1 l0_2 a0_3 a0_4 a0_5 a0_6 a0_7 a0_8 = some r) :
  Calls Tryd.prog 82 #[.agg #[.string a0_0, .bool a0_1, .slice A0_2 l0_2.length c0_2, .int .i64 a0_3, .int .i64 a0_4, .int .i64 a0_5, .string a0_6, .int .i64 a0_7, .int .i64 a0_8]] w fun e w' => e = .returned (.bool r) ∧ Below w.heap.size w w' := by
 have hu39 := Tryd.underlying39
 have HR0_2 := qas hr0_2
 have HC0_2 := qas hc0_2
 clear hr0_2 hc0_2
 have HB := qas (Below.refl w.heap.size w)
 have H : ((pr_VecMay.f k l0_2).bind fun t161 => (if t161 = true then (if a0_3 ≥ 1 then (if a0_3 ≤ 1048576 then (if a0_4 ≥ 0 then (some (decide (a0_4 < 4))) else (some false)) else (some false)) else (some false)) else (some false))) = some r := h
 clear h
 replace H := Option.bind_eq_some_iff.mp H
 obtain ⟨t161, A20, H⟩ := H
 replace H : (if t161 = true then (if a0_3 ≥ 1 then (if a0_3 ≤ 1048576 then (if a0_4 ≥ 0 then (some (decide (a0_4 < 4))) else (some false)) else (some false)) else (some false)) else (some false)) = some r := H
 have A2 := qas A20
 clear A20
 by_cases c3 : t161 = true
 rotate_left
 ·replace c3 := Bool.eq_false_iff.mpr c3
  subst c3
  have H1 : (some false) = some r := by rw [if_neg (show ¬ (false = true) by decide)] at H; exact H
  clear H
  have H := H1
  clear H1
  obtain rfl := Option.some.inj H
  go_enter Tryd.func82, Tryd.ntmps82
  go_wp2_with (first | ((with_reducible refine gate_dst (N := 1) rfl ?_); refine box_event ?hg (N := 1) ?hd (cs := #[.string a0_0, .bool a0_1, .slice A0_2 l0_2.length c0_2, .int .i64 a0_3, .int .i64 a0_4, .int .i64 a0_5, .string a0_6, .int .i64 a0_7, .int .i64 a0_8]) (t := 39) ?hr ?_; (case hd => rfl); (case hg => rfl); (case hr => first | (go_simp; done) | (go_simp; rfl)); intro gb160 hg w15 hbox hb; have n0_ := qas (below_step (by repeat (first | (with_reducible first | exact HB.out | apply qbA | apply qbB | apply qbC) | exact HB.out)) hb); have n1_ := qas (hbox); have n2_ := qas ((by rw [hg]; exact (below_size (by repeat (first | (with_reducible first | exact HB.out | apply qbA | apply qbB | apply qbC) | exact HB.out))) : w.heap.size ≤ gb160)); have n3_ := qas ((by rw [hg]; exact (below_size (by repeat (first | (with_reducible first | exact HB.out | apply qbA | apply qbB | apply qbC) | exact HB.out))) : w.heap.size ≤ gb160)); clear HB; have HB := n0_; have BK160 := n1_; have GW160 := n2_; have GE160 := n3_; clear n0_ n1_ n2_ n3_; clear hb hbox hg; have hcz16_0 : w15.cell? ⟨gb160, 0, none⟩ = some (.string a0_0) := (blk_cell BK160.out 0).trans rfl; have hcz16_1 : w15.cell? ⟨gb160, 1, none⟩ = some (.bool a0_1) := (blk_cell BK160.out 1).trans rfl; have hcz16_2 : w15.cell? ⟨gb160, 2, none⟩ = some (.slice A0_2 l0_2.length c0_2) := (blk_cell BK160.out 2).trans rfl; have hcz16_3 : w15.cell? ⟨gb160, 3, none⟩ = some (.int .i64 a0_3) := (blk_cell BK160.out 3).trans rfl; have hcz16_4 : w15.cell? ⟨gb160, 4, none⟩ = some (.int .i64 a0_4) := (blk_cell BK160.out 4).trans rfl; have hcz16_5 : w15.cell? ⟨gb160, 5, none⟩ = some (.int .i64 a0_5) := (blk_cell BK160.out 5).trans rfl; have hcz16_6 : w15.cell? ⟨gb160, 6, none⟩ = some (.string a0_6) := (blk_cell BK160.out 6).trans rfl; have hcz16_7 : w15.cell? ⟨gb160, 7, none⟩ = some (.int .i64 a0_7) := (blk_cell BK160.out 7).trans rfl; have hcz16_8 : w15.cell? ⟨gb160, 8, none⟩ = some (.int .i64 a0_8) := (blk_cell BK160.out 8).trans rfl; have hfz16_0 := blk_frozen BK160.out 0; have hfz16_1 := blk_frozen BK160.out 1; have hfz16_2 := blk_frozen BK160.out 2; have hfz16_3 := blk_frozen BK160.out 3; have hfz16_4 := blk_frozen BK160.out 4; have hfz16_5 := blk_frozen BK160.out 5; have hfz16_6 := blk_frozen BK160.out 6; have hfz16_7 := blk_frozen BK160.out 7; have hfz16_8 := blk_frozen BK160.out 8) | ((with_reducible refine gate_callee (f := 101) rfl ?_); refine goesL_ (some 5) rfl rfl Tryd.func101 (by kernel_rfl) rfl #[.slice A0_2 l0_2.length c0_2] rfl (by (try simp only [List.map_toArray, List.map_cons, List.map_nil]); first | done | rfl | (simp only [List.length_drop, List.length_take]; rfl)) ?_; (with_reducible refine (pr_VecMay.calls k _ _ l0_2 false _ ?side1 ?side2 A2.out).mono ?_); (case side1 => repeat (first | exact (Kd.C_below HR0_2.out HB.out) | (with_reducible refine Kd.C_alloc ?_ _) | (with_reducible refine Kd.C_drewN ?_ _) | (with_reducible refine Kd.C_drew ?_))); (case side2 => exact HC0_2.out); rintro e w' ⟨rfl, ⟨nd, rfl⟩⟩; refine ⟨_, rfl, ?_⟩))
  go_ret
  exact ⟨by first | rfl | (simp [errW_none, errW_some] <;> rfl) | (simp [*, errW_none, errW_some] <;> rfl), by repeat (first | (with_reducible first | exact HB.out | apply qbA | apply qbB | apply qbC | refine below_set ?_ GE160.out) | exact HB.out)⟩
 subst c3
 have H1 : (if a0_3 ≥ 1 then (if a0_3 ≤ 1048576 then (if a0_4 ≥ 0 then (some (decide (a0_4 < 4))) else (some false)) else (some false)) else (some false)) = some r := by rw [if_pos rfl] at H; exact H
 clear H
 have H := H1
 clear H1
 by_cases c4 : a0_3 ≥ 1
 rotate_left
 ·rw [if_neg c4] at H
  have c4b0 : decide (1 ≤ a0_3) = false := decide_eq_false c4
  clear c4
  obtain rfl := Option.some.inj H
  go_enter Tryd.func82, Tryd.ntmps82
  go_wp2_with (first | ((with_reducible refine gate_dst (N := 1) rfl ?_); refine box_event ?hg (N := 1) ?hd (cs := #[.string a0_0, .bool a0_1, .slice A0_2 l0_2.length c0_2, .int .i64 a0_3, .int .i64 a0_4, .int .i64 a0_5, .string a0_6, .int .i64 a0_7, .int .i64 a0_8]) (t := 39) ?hr ?_; (case hd => rfl); (case hg => rfl); (case hr => first | (go_simp; done) | (go_simp; rfl)); intro gb160 hg w13 hbox hb; have n0_ := qas (below_step (by repeat (first | (with_reducible first | exact HB.out | apply qbA | apply qbB | apply qbC) | exact HB.out)) hb); have n1_ := qas (hbox); have n2_ := qas ((by rw [hg]; exact (below_size (by repeat (first | (with_reducible first | exact HB.out | apply qbA | apply qbB | apply qbC) | exact HB.out))) : w.heap.size ≤ gb160)); have n3_ := qas ((by rw [hg]; exact (below_size (by repeat (first | (with_reducible first | exact HB.out | apply qbA | apply qbB | apply qbC) | exact HB.out))) : w.heap.size ≤ gb160)); clear HB; have HB := n0_; have BK160 := n1_; have GW160 := n2_; have GE160 := n3_; clear n0_ n1_ n2_ n3_; clear hb hbox hg; have hcz14_0 : w13.cell? ⟨gb160, 0, none⟩ = some (.string a0_0) := (blk_cell BK160.out 0).trans rfl; have hcz14_1 : w13.cell? ⟨gb160, 1, none⟩ = some (.bool a0_1) := (blk_cell BK160.out 1).trans rfl; have hcz14_2 : w13.cell? ⟨gb160, 2, none⟩ = some (.slice A0_2 l0_2.length c0_2) := (blk_cell BK160.out 2).trans rfl; have hcz14_3 : w13.cell? ⟨gb160, 3, none⟩ = some (.int .i64 a0_3) := (blk_cell BK160.out 3).trans rfl; have hcz14_4 : w13.cell? ⟨gb160, 4, none⟩ = some (.int .i64 a0_4) := (blk_cell BK160.out 4).trans rfl; have hcz14_5 : w13.cell? ⟨gb160, 5, none⟩ = some (.int .i64 a0_5) := (blk_cell BK160.out 5).trans rfl; have hcz14_6 : w13.cell? ⟨gb160, 6, none⟩ = some (.string a0_6) := (blk_cell BK160.out 6).trans rfl; have hcz14_7 : w13.cell? ⟨gb160, 7, none⟩ = some (.int .i64 a0_7) := (blk_cell BK160.out 7).trans rfl; have hcz14_8 : w13.cell? ⟨gb160, 8, none⟩ = some (.int .i64 a0_8) := (blk_cell BK160.out 8).trans rfl; have hfz14_0 := blk_frozen BK160.out 0; have hfz14_1 := blk_frozen BK160.out 1; have hfz14_2 := blk_frozen BK160.out 2; have hfz14_3 := blk_frozen BK160.out 3; have hfz14_4 := blk_frozen BK160.out 4; have hfz14_5 := blk_frozen BK160.out 5; have hfz14_6 := blk_frozen BK160.out 6; have hfz14_7 := blk_frozen BK160.out 7; have hfz14_8 := blk_frozen BK160.out 8) | ((with_reducible refine gate_callee (f := 101) rfl ?_); refine goesL_ (some 5) rfl rfl Tryd.func101 (by kernel_rfl) rfl #[.slice A0_2 l0_2.length c0_2] rfl (by (try simp only [List.map_toArray, List.map_cons, List.map_nil]); first | done | rfl | (simp only [List.length_drop, List.length_take]; rfl)) ?_; (with_reducible refine (pr_VecMay.calls k _ _ l0_2 true _ ?side1 ?side2 A2.out).mono ?_); (case side1 => repeat (first | exact (Kd.C_below HR0_2.out HB.out) | (with_reducible refine Kd.C_alloc ?_ _) | (with_reducible refine Kd.C_drewN ?_ _) | (with_reducible refine Kd.C_drew ?_))); (case side2 => exact HC0_2.out); rintro e w' ⟨rfl, ⟨nd, rfl⟩⟩; refine ⟨_, rfl, ?_⟩))
  go_ret
  exact ⟨by first | rfl | (simp [errW_none, errW_some] <;> rfl) | (simp [*, errW_none, errW_some] <;> rfl), by repeat (first | (with_reducible first | exact HB.out | apply qbA | apply qbB | apply qbC | refine below_set ?_ GE160.out) | exact HB.out)⟩
 rw [if_pos c4] at H
 have c4b0 : decide (1 ≤ a0_3) = true := decide_eq_true c4
 clear c4
 by_cases c5 : a0_3 ≤ 1048576
 rotate_left
 ·rw [if_neg c5] at H
  have c5b0 : decide (a0_3 ≤ 1048576) = false := decide_eq_false c5
  clear c5
  obtain rfl := Option.some.inj H
  go_enter Tryd.func82, Tryd.ntmps82
  go_wp2_with (first | ((with_reducible refine gate_dst (N := 1) rfl ?_); refine box_event ?hg (N := 1) ?hd (cs := #[.string a0_0, .bool a0_1, .slice A0_2 l0_2.length c0_2, .int .i64 a0_3, .int .i64 a0_4, .int .i64 a0_5, .string a0_6, .int .i64 a0_7, .int .i64 a0_8]) (t := 39) ?hr ?_; (case hd => rfl); (case hg => rfl); (case hr => first | (go_simp; done) | (go_simp; rfl)); intro gb160 hg w11 hbox hb; have n0_ := qas (below_step (by repeat (first | (with_reducible first | exact HB.out | apply qbA | apply qbB | apply qbC) | exact HB.out)) hb); have n1_ := qas (hbox); have n2_ := qas ((by rw [hg]; exact (below_size (by repeat (first | (with_reducible first | exact HB.out | apply qbA | apply qbB | apply qbC) | exact HB.out))) : w.heap.size ≤ gb160)); have n3_ := qas ((by rw [hg]; exact (below_size (by repeat (first | (with_reducible first | exact HB.out | apply qbA | apply qbB | apply qbC) | exact HB.out))) : w.heap.size ≤ gb160)); clear HB; have HB := n0_; have BK160 := n1_; have GW160 := n2_; have GE160 := n3_; clear n0_ n1_ n2_ n3_; clear hb hbox hg; have hcz12_0 : w11.cell? ⟨gb160, 0, none⟩ = some (.string a0_0) := (blk_cell BK160.out 0).trans rfl; have hcz12_1 : w11.cell? ⟨gb160, 1, none⟩ = some (.bool a0_1) := (blk_cell BK160.out 1).trans rfl; have hcz12_2 : w11.cell? ⟨gb160, 2, none⟩ = some (.slice A0_2 l0_2.length c0_2) := (blk_cell BK160.out 2).trans rfl; have hcz12_3 : w11.cell? ⟨gb160, 3, none⟩ = some (.int .i64 a0_3) := (blk_cell BK160.out 3).trans rfl; have hcz12_4 : w11.cell? ⟨gb160, 4, none⟩ = some (.int .i64 a0_4) := (blk_cell BK160.out 4).trans rfl; have hcz12_5 : w11.cell? ⟨gb160, 5, none⟩ = some (.int .i64 a0_5) := (blk_cell BK160.out 5).trans rfl; have hcz12_6 : w11.cell? ⟨gb160, 6, none⟩ = some (.string a0_6) := (blk_cell BK160.out 6).trans rfl; have hcz12_7 : w11.cell? ⟨gb160, 7, none⟩ = some (.int .i64 a0_7) := (blk_cell BK160.out 7).trans rfl; have hcz12_8 : w11.cell? ⟨gb160, 8, none⟩ = some (.int .i64 a0_8) := (blk_cell BK160.out 8).trans rfl; have hfz12_0 := blk_frozen BK160.out 0; have hfz12_1 := blk_frozen BK160.out 1; have hfz12_2 := blk_frozen BK160.out 2; have hfz12_3 := blk_frozen BK160.out 3; have hfz12_4 := blk_frozen BK160.out 4; have hfz12_5 := blk_frozen BK160.out 5; have hfz12_6 := blk_frozen BK160.out 6; have hfz12_7 := blk_frozen BK160.out 7; have hfz12_8 := blk_frozen BK160.out 8) | ((with_reducible refine gate_callee (f := 101) rfl ?_); refine goesL_ (some 5) rfl rfl Tryd.func101 (by kernel_rfl) rfl #[.slice A0_2 l0_2.length c0_2] rfl (by (try simp only [List.map_toArray, List.map_cons, List.map_nil]); first | done | rfl | (simp only [List.length_drop, List.length_take]; rfl)) ?_; (with_reducible refine (pr_VecMay.calls k _ _ l0_2 true _ ?side1 ?side2 A2.out).mono ?_); (case side1 => repeat (first | exact (Kd.C_below HR0_2.out HB.out) | (with_reducible refine Kd.C_alloc ?_ _) | (with_reducible refine Kd.C_drewN ?_ _) | (with_reducible refine Kd.C_drew ?_))); (case side2 => exact HC0_2.out); rintro e w' ⟨rfl, ⟨nd, rfl⟩⟩; refine ⟨_, rfl, ?_⟩))
  go_ret
  exact ⟨by first | rfl | (simp [errW_none, errW_some] <;> rfl) | (simp [*, errW_none, errW_some] <;> rfl), by repeat (first | (with_reducible first | exact HB.out | apply qbA | apply qbB | apply qbC | refine below_set ?_ GE160.out) | exact HB.out)⟩
 rw [if_pos c5] at H
 have c5b0 : decide (a0_3 ≤ 1048576) = true := decide_eq_true c5
 clear c5
 by_cases c6 : a0_4 ≥ 0
 ·rw [if_pos c6] at H
  have c6b0 : decide (0 ≤ a0_4) = true := decide_eq_true c6
  clear c6
  obtain rfl := Option.some.inj H
  go_enter Tryd.func82, Tryd.ntmps82
  go_wp2_with (first | ((with_reducible refine gate_dst (N := 1) rfl ?_); refine box_event ?hg (N := 1) ?hd (cs := #[.string a0_0, .bool a0_1, .slice A0_2 l0_2.length c0_2, .int .i64 a0_3, .int .i64 a0_4, .int .i64 a0_5, .string a0_6, .int .i64 a0_7, .int .i64 a0_8]) (t := 39) ?hr ?_; (case hd => rfl); (case hg => rfl); (case hr => first | (go_simp; done) | (go_simp; rfl)); intro gb160 hg w7 hbox hb; have n0_ := qas (below_step (by repeat (first | (with_reducible first | exact HB.out | apply qbA | apply qbB | apply qbC) | exact HB.out)) hb); have n1_ := qas (hbox); have n2_ := qas ((by rw [hg]; exact (below_size (by repeat (first | (with_reducible first | exact HB.out | apply qbA | apply qbB | apply qbC) | exact HB.out))) : w.heap.size ≤ gb160)); have n3_ := qas ((by rw [hg]; exact (below_size (by repeat (first | (with_reducible first | exact HB.out | apply qbA | apply qbB | apply qbC) | exact HB.out))) : w.heap.size ≤ gb160)); clear HB; have HB := n0_; have BK160 := n1_; have GW160 := n2_; have GE160 := n3_; clear n0_ n1_ n2_ n3_; clear hb hbox hg; have hcz8_0 : w7.cell? ⟨gb160, 0, none⟩ = some (.string a0_0) := (blk_cell BK160.out 0).trans rfl; have hcz8_1 : w7.cell? ⟨gb160, 1, none⟩ = some (.bool a0_1) := (blk_cell BK160.out 1).trans rfl; have hcz8_2 : w7.cell? ⟨gb160, 2, none⟩ = some (.slice A0_2 l0_2.length c0_2) := (blk_cell BK160.out 2).trans rfl; have hcz8_3 : w7.cell? ⟨gb160, 3, none⟩ = some (.int .i64 a0_3) := (blk_cell BK160.out 3).trans rfl; have hcz8_4 : w7.cell? ⟨gb160, 4, none⟩ = some (.int .i64 a0_4) := (blk_cell BK160.out 4).trans rfl; have hcz8_5 : w7.cell? ⟨gb160, 5, none⟩ = some (.int .i64 a0_5) := (blk_cell BK160.out 5).trans rfl; have hcz8_6 : w7.cell? ⟨gb160, 6, none⟩ = some (.string a0_6) := (blk_cell BK160.out 6).trans rfl; have hcz8_7 : w7.cell? ⟨gb160, 7, none⟩ = some (.int .i64 a0_7) := (blk_cell BK160.out 7).trans rfl; have hcz8_8 : w7.cell? ⟨gb160, 8, none⟩ = some (.int .i64 a0_8) := (blk_cell BK160.out 8).trans rfl; have hfz8_0 := blk_frozen BK160.out 0; have hfz8_1 := blk_frozen BK160.out 1; have hfz8_2 := blk_frozen BK160.out 2; have hfz8_3 := blk_frozen BK160.out 3; have hfz8_4 := blk_frozen BK160.out 4; have hfz8_5 := blk_frozen BK160.out 5; have hfz8_6 := blk_frozen BK160.out 6; have hfz8_7 := blk_frozen BK160.out 7; have hfz8_8 := blk_frozen BK160.out 8) | ((with_reducible refine gate_callee (f := 101) rfl ?_); refine goesL_ (some 5) rfl rfl Tryd.func101 (by kernel_rfl) rfl #[.slice A0_2 l0_2.length c0_2] rfl (by (try simp only [List.map_toArray, List.map_cons, List.map_nil]); first | done | rfl | (simp only [List.length_drop, List.length_take]; rfl)) ?_; (with_reducible refine (pr_VecMay.calls k _ _ l0_2 true _ ?side1 ?side2 A2.out).mono ?_); (case side1 => repeat (first | exact (Kd.C_below HR0_2.out HB.out) | (with_reducible refine Kd.C_alloc ?_ _) | (with_reducible refine Kd.C_drewN ?_ _) | (with_reducible refine Kd.C_drew ?_))); (case side2 => exact HC0_2.out); rintro e w' ⟨rfl, ⟨nd, rfl⟩⟩; refine ⟨_, rfl, ?_⟩))
  go_ret
  exact ⟨by first | rfl | (simp [errW_none, errW_some] <;> rfl) | (simp [*, errW_none, errW_some] <;> rfl), by repeat (first | (with_reducible first | exact HB.out | apply qbA | apply qbB | apply qbC | refine below_set ?_ GE160.out) | exact HB.out)⟩
 rw [if_neg c6] at H
 have c6b0 : decide (0 ≤ a0_4) = false := decide_eq_false c6
 clear c6
 obtain rfl := Option.some.inj H
 go_enter Tryd.func82, Tryd.ntmps82
 go_wp2_with (first | ((with_reducible refine gate_dst (N := 1) rfl ?_); refine box_event ?hg (N := 1) ?hd (cs := #[.string a0_0, .bool a0_1, .slice A0_2 l0_2.length c0_2, .int .i64 a0_3, .int .i64 a0_4, .int .i64 a0_5, .string a0_6, .int .i64 a0_7, .int .i64 a0_8]) (t := 39) ?hr ?_; (case hd => rfl); (case hg => rfl); (case hr => first | (go_simp; done) | (go_simp; rfl)); intro gb160 hg w9 hbox hb; have n0_ := qas (below_step (by repeat (first | (with_reducible first | exact HB.out | apply qbA | apply qbB | apply qbC) | exact HB.out)) hb); have n1_ := qas (hbox); have n2_ := qas ((by rw [hg]; exact (below_size (by repeat (first | (with_reducible first | exact HB.out | apply qbA | apply qbB | apply qbC) | exact HB.out))) : w.heap.size ≤ gb160)); have n3_ := qas ((by rw [hg]; exact (below_size (by repeat (first | (with_reducible first | exact HB.out | apply qbA | apply qbB | apply qbC) | exact HB.out))) : w.heap.size ≤ gb160)); clear HB; have HB := n0_; have BK160 := n1_; have GW160 := n2_; have GE160 := n3_; clear n0_ n1_ n2_ n3_; clear hb hbox hg; have hcz10_0 : w9.cell? ⟨gb160, 0, none⟩ = some (.string a0_0) := (blk_cell BK160.out 0).trans rfl; have hcz10_1 : w9.cell? ⟨gb160, 1, none⟩ = some (.bool a0_1) := (blk_cell BK160.out 1).trans rfl; have hcz10_2 : w9.cell? ⟨gb160, 2, none⟩ = some (.slice A0_2 l0_2.length c0_2) := (blk_cell BK160.out 2).trans rfl; have hcz10_3 : w9.cell? ⟨gb160, 3, none⟩ = some (.int .i64 a0_3) := (blk_cell BK160.out 3).trans rfl; have hcz10_4 : w9.cell? ⟨gb160, 4, none⟩ = some (.int .i64 a0_4) := (blk_cell BK160.out 4).trans rfl; have hcz10_5 : w9.cell? ⟨gb160, 5, none⟩ = some (.int .i64 a0_5) := (blk_cell BK160.out 5).trans rfl; have hcz10_6 : w9.cell? ⟨gb160, 6, none⟩ = some (.string a0_6) := (blk_cell BK160.out 6).trans rfl; have hcz10_7 : w9.cell? ⟨gb160, 7, none⟩ = some (.int .i64 a0_7) := (blk_cell BK160.out 7).trans rfl; have hcz10_8 : w9.cell? ⟨gb160, 8, none⟩ = some (.int .i64 a0_8) := (blk_cell BK160.out 8).trans rfl; have hfz10_0 := blk_frozen BK160.out 0; have hfz10_1 := blk_frozen BK160.out 1; have hfz10_2 := blk_frozen BK160.out 2; have hfz10_3 := blk_frozen BK160.out 3; have hfz10_4 := blk_frozen BK160.out 4; have hfz10_5 := blk_frozen BK160.out 5; have hfz10_6 := blk_frozen BK160.out 6; have hfz10_7 := blk_frozen BK160.out 7; have hfz10_8 := blk_frozen BK160.out 8) | ((with_reducible refine gate_callee (f := 101) rfl ?_); refine goesL_ (some 5) rfl rfl Tryd.func101 (by kernel_rfl) rfl #[.slice A0_2 l0_2.length c0_2] rfl (by (try simp only [List.map_toArray, List.map_cons, List.map_nil]); first | done | rfl | (simp only [List.length_drop, List.length_take]; rfl)) ?_; (with_reducible refine (pr_VecMay.calls k _ _ l0_2 true _ ?side1 ?side2 A2.out).mono ?_); (case side1 => repeat (first | exact (Kd.C_below HR0_2.out HB.out) | (with_reducible refine Kd.C_alloc ?_ _) | (with_reducible refine Kd.C_drewN ?_ _) | (with_reducible refine Kd.C_drew ?_))); (case side2 => exact HC0_2.out); rintro e w' ⟨rfl, ⟨nd, rfl⟩⟩; refine ⟨_, rfl, ?_⟩))
 go_ret
 exact ⟨by first | rfl | (simp [errW_none, errW_some] <;> rfl) | (simp [*, errW_none, errW_some] <;> rfl), by repeat (first | (with_reducible first | exact HB.out | apply qbA | apply qbB | apply qbC | refine below_set ?_ GE160.out) | exact HB.out)⟩

attribute [local go_sem] max2_int min2_int max_two min_two max_three min_three max_four min_four   -- for this text's walks alone
set_option linter.unusedVariables false
set_option linter.unusedSimpArgs false

/-! ### pr_NameMay: function 87 -/
mutual
def pr_NameMay.j0 : Nat → ByteArray → Bool → Option (Bool)
 | 0, _, _ => none
 | k + 1, x0, x20 => if x20 = true then (some false) else (pr_NameMay.l0 k x0 0)
def pr_NameMay.l0 : Nat → ByteArray → Int → Option (Bool)
 | 0, _, _ => none
 | k + 1, x0, x3 => if x3 < (x0.size : Int) then (if 0 ≤ x3 then (if (bt x0 x3) < 97 then (if (bt x0 x3) < 48 then (if (bt x0 x3) = 46 then (pr_NameMay.l0 k x0 (wrap64 (x3 + 1))) else (if (bt x0 x3) = 45 then (pr_NameMay.l0 k x0 (wrap64 (x3 + 1))) else (if (bt x0 x3) = 95 then (pr_NameMay.l0 k x0 (wrap64 (x3 + 1))) else (some false)))) else (if (bt x0 x3) > 57 then (if (bt x0 x3) = 46 then (pr_NameMay.l0 k x0 (wrap64 (x3 + 1))) else (if (bt x0 x3) = 45 then (pr_NameMay.l0 k x0 (wrap64 (x3 + 1))) else (if (bt x0 x3) = 95 then (pr_NameMay.l0 k x0 (wrap64 (x3 + 1))) else (some false)))) else (pr_NameMay.l0 k x0 (wrap64 (x3 + 1))))) else (if (bt x0 x3) > 122 then (if (bt x0 x3) < 48 then (if (bt x0 x3) = 46 then (pr_NameMay.l0 k x0 (wrap64 (x3 + 1))) else (if (bt x0 x3) = 45 then (pr_NameMay.l0 k x0 (wrap64 (x3 + 1))) else (if (bt x0 x3) = 95 then (pr_NameMay.l0 k x0 (wrap64 (x3 + 1))) else (some false)))) else (if (bt x0 x3) > 57 then (if (bt x0 x3) = 46 then (pr_NameMay.l0 k x0 (wrap64 (x3 + 1))) else (if (bt x0 x3) = 45 then (pr_NameMay.l0 k x0 (wrap64 (x3 + 1))) else (if (bt x0 x3) = 95 then (pr_NameMay.l0 k x0 (wrap64 (x3 + 1))) else (some false)))) else (pr_NameMay.l0 k x0 (wrap64 (x3 + 1))))) else (pr_NameMay.l0 k x0 (wrap64 (x3 + 1))))) else (none)) else (some true)
end
def pr_NameMay.f (k : Nat) (a0 : ByteArray) : Option (Bool) := if (a0.size : Int) < 1 then (pr_NameMay.j0 k a0 true) else (if (a0.size : Int) > 8 then (pr_NameMay.j0 k a0 true) else (if a0.toList = ([46] : List UInt8) then (pr_NameMay.j0 k a0 true) else (pr_NameMay.j0 k a0 (a0.toList == ([46, 46] : List UInt8)))))
theorem pr_NameMay.mono_l : ∀ k, (∀ y0 y1, LeO (pr_NameMay.j0 k y0 y1) (pr_NameMay.j0 (k + 1) y0 y1)) ∧ (∀ y0 y1, LeO (pr_NameMay.l0 k y0 y1) (pr_NameMay.l0 (k + 1) y0 y1))
 | 0 => ⟨fun _ _ r h => by simp [pr_NameMay.j0] at h, fun _ _ r h => by simp [pr_NameMay.l0] at h⟩
 | k + 1 => by
  obtain ⟨ih0, ih1⟩ := pr_NameMay.mono_l k
  refine ⟨?_, ?_⟩
  ·intro y0 y1
   unfold pr_NameMay.j0
   repeat' first
   | (with_reducible exact ih0 _ _)
   | (with_reducible exact ih1 _ _)
   | (with_reducible exact LeO.refl _)
   | (with_reducible exact LeO.none _)
   | (with_reducible refine LeO.ite ?_ ?_)
   | (with_reducible refine LeO.bind ?_ (fun _ => ?_))
   | exact ih0 _ _
   | exact ih1 _ _
   | exact LeO.none _
   | refine LeO.ite ?_ ?_
   | refine LeO.bind ?_ (fun _ => ?_)
  ·intro y0 y1
   unfold pr_NameMay.l0
   repeat' first
   | (with_reducible exact ih0 _ _)
   | (with_reducible exact ih1 _ _)
   | (with_reducible exact LeO.refl _)
   | (with_reducible exact LeO.none _)
   | (with_reducible refine LeO.ite ?_ ?_)
   | (with_reducible refine LeO.bind ?_ (fun _ => ?_))
   | exact ih0 _ _
   | exact ih1 _ _
   | exact LeO.none _
   | refine LeO.ite ?_ ?_
   | refine LeO.bind ?_ (fun _ => ?_)
theorem pr_NameMay.mono : ∀ a0 k, LeO (pr_NameMay.f k a0) (pr_NameMay.f (k + 1) a0) := by
 intro a0 k
 obtain ⟨ih0, ih1⟩ := pr_NameMay.mono_l k
 unfold pr_NameMay.f
 repeat' first
   | (with_reducible exact ih0 _ _)
   | (with_reducible exact ih1 _ _)
   | (with_reducible exact LeO.refl _)
   | (with_reducible exact LeO.none _)
   | (with_reducible refine LeO.ite ?_ ?_)
   | (with_reducible refine LeO.bind ?_ (fun _ => ?_))
   | exact ih0 _ _
   | exact ih1 _ _
   | exact LeO.none _
   | refine LeO.ite ?_ ?_
   | refine LeO.bind ?_ (fun _ => ?_)
set_option maxHeartbeats 8000000 in
set_option maxRecDepth 100000 in
theorem pr_NameMay.calls (k : Nat) (a0 : ByteArray) (r : Bool) (w : World) (h : pr_NameMay.f k a0 = some r) :
  Calls Tryd.prog 87 #[.string a0] w fun e w' => e = .returned (.bool r) ∧ Drawn0 w w' := by
 have H : (if (a0.size : Int) < 1 then (pr_NameMay.j0 k a0 true) else (if (a0.size : Int) > 8 then (pr_NameMay.j0 k a0 true) else (if a0.toList = ([46] : List UInt8) then (pr_NameMay.j0 k a0 true) else (pr_NameMay.j0 k a0 (a0.toList == ([46, 46] : List UInt8)))))) = some r := h
 clear h
 have HC2 := qas H
 clear H
 go_enter Tryd.func87, Tryd.ntmps87
 go_upto_region 1 with (fail)
 go_cut [20] (fun v20 wc => ∃ (kq : Nat) (x20_1 : Bool), v20 = .bool x20_1 ∧ Aside0 (pr_NameMay.j0 kq a0 x20_1 = some r) ∧ Aside0 (kq ≤ k) ∧ Drawn0 w wc)
 case first =>
  have H := HC2.out
  clear HC2
  by_cases c3 : (a0.size : Int) < 1
  ·rw [if_pos c3] at H
   have c3b0 : decide ((a0.size : Int) < 1) = true := decide_eq_true c3
   have c3b1 : decide (a0.size < 1) = true := decide_eq_true (by omega)
   clear c3
   (first | rw [c3b0] | (simp only [i64_w, i32_w]; rw [c3b0]) | skip)
   have H' := qas H
   clear H
   go_wp2
   go_meet
   case rel => exact ⟨_, (true), (by first | rfl | (simp; done) | (simp [*]; done)), H', ⟨by first | omega | exact Nat.le_refl _⟩, by repeat (first | exact Drawn0.refl _ | apply Drawn0.step)⟩
  rw [if_neg c3] at H
  have c3b0 : decide ((a0.size : Int) < 1) = false := decide_eq_false c3
  have c3b1 : decide (a0.size < 1) = false := decide_eq_false (by omega)
  clear c3
  (first | rw [c3b0] | (simp only [i64_w, i32_w]; rw [c3b0]) | skip)
  by_cases c4 : (a0.size : Int) > 8
  ·rw [if_pos c4] at H
   have c4b0 : decide (8 < (a0.size : Int)) = true := decide_eq_true c4
   have c4b1 : decide (8 < a0.size) = true := decide_eq_true (by omega)
   clear c4
   have H' := qas H
   clear H
   go_wp2
   go_meet
   case rel => exact ⟨_, (true), (by first | rfl | (simp; done) | (simp [*]; done)), H', ⟨by first | omega | exact Nat.le_refl _⟩, by repeat (first | exact Drawn0.refl _ | apply Drawn0.step)⟩
  rw [if_neg c4] at H
  have c4b0 : decide (8 < (a0.size : Int)) = false := decide_eq_false c4
  have c4b1 : decide (8 < a0.size) = false := decide_eq_false (by omega)
  clear c4
  by_cases c5 : a0.toList = ([46] : List UInt8)
  ·rw [if_pos c5] at H
   have c5b0 : (a0.toList == ([46] : List UInt8)) = true := beq_iff_eq.mpr c5
   have c5b1 : (a0.toList != ([46] : List UInt8)) = false := bne_eq_false_iff_eq.mpr c5
   clear c5
   have H' := qas H
   clear H
   go_wp2
   go_meet
   case rel => exact ⟨_, (true), (by first | rfl | (simp; done) | (simp [*]; done)), H', ⟨by first | omega | exact Nat.le_refl _⟩, by repeat (first | exact Drawn0.refl _ | apply Drawn0.step)⟩
  rw [if_neg c5] at H
  have c5b0 : (a0.toList == ([46] : List UInt8)) = false := beq_eq_false_iff_ne.mpr c5
  have c5b1 : (a0.toList != ([46] : List UInt8)) = true := bne_iff_ne.mpr c5
  have H' := qas H
  clear H
  go_wp2
  go_meet
  case rel => exact ⟨_, ((a0.toList == ([46, 46] : List UInt8))), (by first | rfl | (simp; done) | (simp [*]; done)), H', ⟨by first | omega | exact Nat.le_refl _⟩, by repeat (first | exact Drawn0.refl _ | apply Drawn0.step)⟩
 case rest =>
  clear HC2
  try clear p2
  try clear c3
  try clear c3b0
  try clear c3b1
  try clear c4
  try clear c4b0
  try clear c4b1
  try clear c5
  try clear c5b0
  try clear c5b1
  obtain ⟨kq, x20_1, rfl, HA, HJ1, ⟨mc1, rfl⟩⟩ := hcut
  cases kq with
  | zero => exact absurd HA.out (by simp [pr_NameMay.j0])
  | succ kj1 =>
   have H := HA.out
   clear HA
   simp only [pr_NameMay.j0] at H
   by_cases c6 : x20_1 = true
   ·subst c6
    have H1 : (some false) = some r := by rw [if_pos rfl] at H; exact H
    clear H
    have H := H1
    clear H1
    obtain rfl := Option.some.inj H
    go_wp2
    go_ret
    exact ⟨by first | rfl | (simp; done) | (simp [*]; done), by repeat (first | exact Drawn0.refl _ | apply Drawn0.step)⟩
   replace c6 := Bool.eq_false_iff.mpr c6
   subst c6
   have H1 : (pr_NameMay.l0 kj1 a0 0) = some r := by rw [if_neg (show ¬ (false = true) by decide)] at H; exact H
   clear H
   have H := H1
   clear H1
   have H' := qas H
   clear H
   go_wp2
   go_loopg [3] kj1 (fun kq v3 w' => ∃ (x3_2 : Int), v3 = .int .i64 x3_2 ∧ Aside0 (pr_NameMay.l0 kq a0 x3_2 = some r) ∧ Aside0 (kq ≤ kj1) ∧ Drawn0 w w')
   case atStart => exact ⟨(0), (by first | rfl | (simp; done) | (simp [*]; done)), H', ⟨Nat.le_refl _⟩, by repeat (first | exact Drawn0.refl _ | apply Drawn0.step)⟩
   case round =>
    clear H'
    try clear c1
    try clear p2
    try clear c3
    try clear c3b0
    try clear c3b1
    try clear c4
    try clear c4b0
    try clear c4b1
    try clear c5
    try clear c5b0
    try clear c5b1
    try clear c6
    try clear p2
    obtain ⟨x3_2, rfl, HA, HK2, ⟨m2, rfl⟩⟩ := hrel
    cases gk with
    | zero => exact absurd HA.out (by simp [pr_NameMay.l0])
    | succ k2 =>
     have H := HA.out
     clear HA
     simp only [pr_NameMay.l0] at H
     by_cases c7 : x3_2 < (a0.size : Int)
     rotate_left
     ·rw [if_neg c7] at H
      have c7b0 : decide (x3_2 < (a0.size : Int)) = false := decide_eq_false c7
      clear c7
      obtain rfl := Option.some.inj H
      go_wp2
      go_ret
      exact ⟨by first | rfl | (simp; done) | (simp [*]; done), by repeat (first | exact Drawn0.refl _ | apply Drawn0.step)⟩
     rw [if_pos c7] at H
     have c7b0 : decide (x3_2 < (a0.size : Int)) = true := decide_eq_true c7
     clear c7
     by_cases c8 : 0 ≤ x3_2
     rotate_left
     ·rw [if_neg c8] at H
      exact absurd H (by simp)
     rw [if_pos c8] at H
     have c8b0 : decide (0 ≤ x3_2) = true := decide_eq_true c8
     clear c8
     by_cases c10 : (bt a0 x3_2) < 97
     ·rw [if_pos c10] at H
      have c10b0 : decide ((bt a0 x3_2) < 97) = true := decide_eq_true c10
      clear c10
      by_cases c11 : (bt a0 x3_2) < 48
      ·rw [if_pos c11] at H
       have c11b0 : decide ((bt a0 x3_2) < 48) = true := decide_eq_true c11
       clear c11
       by_cases c12 : (bt a0 x3_2) = 46
       ·rw [if_pos c12] at H
        have c12b0 : ((bt a0 x3_2) == 46) = true := beq_iff_eq.mpr c12
        have c12b1 : ((bt a0 x3_2) != 46) = false := bne_eq_false_iff_eq.mpr c12
        clear c12
        have H' := qas H
        clear H
        have p9 : 0 ≤ (x3_2 : Int) := qde (by first | (with_reducible assumption) | assumption)
        have q9 : x3_2 < (a0.size : Int) := qde (by first | (with_reducible assumption) | assumption)
        have hx9 := bt_at a0 x3_2
        replace p9 := eq_true p9
        replace q9 := eq_true q9
        go_wp2
        go_roundg k2
        case measure => have := HJ1.out; have := HK2.out; omega
        case rel => exact ⟨(wrap64 (x3_2 + 1)), (by first | rfl | (simp; done) | (simp [*]; done)), H', ⟨by have := HJ1.out; have := HK2.out; omega⟩, by repeat (first | exact Drawn0.refl _ | apply Drawn0.step)⟩
       rw [if_neg c12] at H
       have c12b0 : ((bt a0 x3_2) == 46) = false := beq_eq_false_iff_ne.mpr c12
       have c12b1 : ((bt a0 x3_2) != 46) = true := bne_iff_ne.mpr c12
       by_cases c13 : (bt a0 x3_2) = 45
       ·rw [if_pos c13] at H
        have c13b0 : ((bt a0 x3_2) == 45) = true := beq_iff_eq.mpr c13
        have c13b1 : ((bt a0 x3_2) != 45) = false := bne_eq_false_iff_eq.mpr c13
        clear c13
        have H' := qas H
        clear H
        have p9 : 0 ≤ (x3_2 : Int) := qde (by first | (with_reducible assumption) | assumption)
        have q9 : x3_2 < (a0.size : Int) := qde (by first | (with_reducible assumption) | assumption)
        have hx9 := bt_at a0 x3_2
        replace p9 := eq_true p9
        replace q9 := eq_true q9
        go_wp2
        go_roundg k2
        case measure => have := HJ1.out; have := HK2.out; omega
        case rel => exact ⟨(wrap64 (x3_2 + 1)), (by first | rfl | (simp; done) | (simp [*]; done)), H', ⟨by have := HJ1.out; have := HK2.out; omega⟩, by repeat (first | exact Drawn0.refl _ | apply Drawn0.step)⟩
       rw [if_neg c13] at H
       have c13b0 : ((bt a0 x3_2) == 45) = false := beq_eq_false_iff_ne.mpr c13
       have c13b1 : ((bt a0 x3_2) != 45) = true := bne_iff_ne.mpr c13
       by_cases c14 : (bt a0 x3_2) = 95
       rotate_left
       ·rw [if_neg c14] at H
        have c14b0 : ((bt a0 x3_2) == 95) = false := beq_eq_false_iff_ne.mpr c14
        have c14b1 : ((bt a0 x3_2) != 95) = true := bne_iff_ne.mpr c14
        obtain rfl := Option.some.inj H
        have p9 : 0 ≤ (x3_2 : Int) := qde (by first | (with_reducible assumption) | assumption)
        have q9 : x3_2 < (a0.size : Int) := qde (by first | (with_reducible assumption) | assumption)
        have hx9 := bt_at a0 x3_2
        replace p9 := eq_true p9
        replace q9 := eq_true q9
        go_wp2
        go_ret
        exact ⟨by first | rfl | (simp; done) | (simp [*]; done), by repeat (first | exact Drawn0.refl _ | apply Drawn0.step)⟩
       rw [if_pos c14] at H
       have c14b0 : ((bt a0 x3_2) == 95) = true := beq_iff_eq.mpr c14
       have c14b1 : ((bt a0 x3_2) != 95) = false := bne_eq_false_iff_eq.mpr c14
       clear c14
       have H' := qas H
       clear H
       have p9 : 0 ≤ (x3_2 : Int) := qde (by first | (with_reducible assumption) | assumption)
       have q9 : x3_2 < (a0.size : Int) := qde (by first | (with_reducible assumption) | assumption)
       have hx9 := bt_at a0 x3_2
       replace p9 := eq_true p9
       replace q9 := eq_true q9
       go_wp2
       go_roundg k2
       case measure => have := HJ1.out; have := HK2.out; omega
       case rel => exact ⟨(wrap64 (x3_2 + 1)), (by first | rfl | (simp; done) | (simp [*]; done)), H', ⟨by have := HJ1.out; have := HK2.out; omega⟩, by repeat (first | exact Drawn0.refl _ | apply Drawn0.step)⟩
      rw [if_neg c11] at H
      have c11b0 : decide ((bt a0 x3_2) < 48) = false := decide_eq_false c11
      clear c11
      by_cases c15 : (bt a0 x3_2) > 57
      rotate_left
      ·rw [if_neg c15] at H
       have c15b0 : decide (57 < (bt a0 x3_2)) = false := decide_eq_false c15
       clear c15
       have H' := qas H
       clear H
       have p9 : 0 ≤ (x3_2 : Int) := qde (by first | (with_reducible assumption) | assumption)
       have q9 : x3_2 < (a0.size : Int) := qde (by first | (with_reducible assumption) | assumption)
       have hx9 := bt_at a0 x3_2
       replace p9 := eq_true p9
       replace q9 := eq_true q9
       go_wp2
       go_roundg k2
       case measure => have := HJ1.out; have := HK2.out; omega
       case rel => exact ⟨(wrap64 (x3_2 + 1)), (by first | rfl | (simp; done) | (simp [*]; done)), H', ⟨by have := HJ1.out; have := HK2.out; omega⟩, by repeat (first | exact Drawn0.refl _ | apply Drawn0.step)⟩
      rw [if_pos c15] at H
      have c15b0 : decide (57 < (bt a0 x3_2)) = true := decide_eq_true c15
      clear c15
      by_cases c16 : (bt a0 x3_2) = 46
      ·rw [if_pos c16] at H
       have c16b0 : ((bt a0 x3_2) == 46) = true := beq_iff_eq.mpr c16
       have c16b1 : ((bt a0 x3_2) != 46) = false := bne_eq_false_iff_eq.mpr c16
       clear c16
       have H' := qas H
       clear H
       have p9 : 0 ≤ (x3_2 : Int) := qde (by first | (with_reducible assumption) | assumption)
       have q9 : x3_2 < (a0.size : Int) := qde (by first | (with_reducible assumption) | assumption)
       have hx9 := bt_at a0 x3_2
       replace p9 := eq_true p9
       replace q9 := eq_true q9
       go_wp2
       go_roundg k2
       case measure => have := HJ1.out; have := HK2.out; omega
       case rel => exact ⟨(wrap64 (x3_2 + 1)), (by first | rfl | (simp; done) | (simp [*]; done)), H', ⟨by have := HJ1.out; have := HK2.out; omega⟩, by repeat (first | exact Drawn0.refl _ | apply Drawn0.step)⟩
      rw [if_neg c16] at H
      have c16b0 : ((bt a0 x3_2) == 46) = false := beq_eq_false_iff_ne.mpr c16
      have c16b1 : ((bt a0 x3_2) != 46) = true := bne_iff_ne.mpr c16
      by_cases c17 : (bt a0 x3_2) = 45
      ·rw [if_pos c17] at H
       have c17b0 : ((bt a0 x3_2) == 45) = true := beq_iff_eq.mpr c17
       have c17b1 : ((bt a0 x3_2) != 45) = false := bne_eq_false_iff_eq.mpr c17
       clear c17
       have H' := qas H
       clear H
       have p9 : 0 ≤ (x3_2 : Int) := qde (by first | (with_reducible assumption) | assumption)
       have q9 : x3_2 < (a0.size : Int) := qde (by first | (with_reducible assumption) | assumption)
       have hx9 := bt_at a0 x3_2
       replace p9 := eq_true p9
       replace q9 := eq_true q9
       go_wp2
       go_roundg k2
       case measure => have := HJ1.out; have := HK2.out; omega
       case rel => exact ⟨(wrap64 (x3_2 + 1)), (by first | rfl | (simp; done) | (simp [*]; done)), H', ⟨by have := HJ1.out; have := HK2.out; omega⟩, by repeat (first | exact Drawn0.refl _ | apply Drawn0.step)⟩
      rw [if_neg c17] at H
      have c17b0 : ((bt a0 x3_2) == 45) = false := beq_eq_false_iff_ne.mpr c17
      have c17b1 : ((bt a0 x3_2) != 45) = true := bne_iff_ne.mpr c17
      by_cases c18 : (bt a0 x3_2) = 95
      rotate_left
      ·rw [if_neg c18] at H
       have c18b0 : ((bt a0 x3_2) == 95) = false := beq_eq_false_iff_ne.mpr c18
       have c18b1 : ((bt a0 x3_2) != 95) = true := bne_iff_ne.mpr c18
       obtain rfl := Option.some.inj H
       have p9 : 0 ≤ (x3_2 : Int) := qde (by first | (with_reducible assumption) | assumption)
       have q9 : x3_2 < (a0.size : Int) := qde (by first | (with_reducible assumption) | assumption)
       have hx9 := bt_at a0 x3_2
       replace p9 := eq_true p9
       replace q9 := eq_true q9
       go_wp2
       go_ret
       exact ⟨by first | rfl | (simp; done) | (simp [*]; done), by repeat (first | exact Drawn0.refl _ | apply Drawn0.step)⟩
      rw [if_pos c18] at H
      have c18b0 : ((bt a0 x3_2) == 95) = true := beq_iff_eq.mpr c18
      have c18b1 : ((bt a0 x3_2) != 95) = false := bne_eq_false_iff_eq.mpr c18
      clear c18
      have H' := qas H
      clear H
      have p9 : 0 ≤ (x3_2 : Int) := qde (by first | (with_reducible assumption) | assumption)
      have q9 : x3_2 < (a0.size : Int) := qde (by first | (with_reducible assumption) | assumption)
      have hx9 := bt_at a0 x3_2
      replace p9 := eq_true p9
      replace q9 := eq_true q9
      go_wp2
      go_roundg k2
      case measure => have := HJ1.out; have := HK2.out; omega
      case rel => exact ⟨(wrap64 (x3_2 + 1)), (by first | rfl | (simp; done) | (simp [*]; done)), H', ⟨by have := HJ1.out; have := HK2.out; omega⟩, by repeat (first | exact Drawn0.refl _ | apply Drawn0.step)⟩
     rw [if_neg c10] at H
     have c10b0 : decide ((bt a0 x3_2) < 97) = false := decide_eq_false c10
     clear c10
     by_cases c19 : (bt a0 x3_2) > 122
     rotate_left
     ·rw [if_neg c19] at H
      have c19b0 : decide (122 < (bt a0 x3_2)) = false := decide_eq_false c19
      clear c19
      have H' := qas H
      clear H
      have p9 : 0 ≤ (x3_2 : Int) := qde (by first | (with_reducible assumption) | assumption)
      have q9 : x3_2 < (a0.size : Int) := qde (by first | (with_reducible assumption) | assumption)
      have hx9 := bt_at a0 x3_2
      replace p9 := eq_true p9
      replace q9 := eq_true q9
      go_wp2
      go_roundg k2
      case measure => have := HJ1.out; have := HK2.out; omega
      case rel => exact ⟨(wrap64 (x3_2 + 1)), (by first | rfl | (simp; done) | (simp [*]; done)), H', ⟨by have := HJ1.out; have := HK2.out; omega⟩, by repeat (first | exact Drawn0.refl _ | apply Drawn0.step)⟩
     rw [if_pos c19] at H
     have c19b0 : decide (122 < (bt a0 x3_2)) = true := decide_eq_true c19
     clear c19
     by_cases c20 : (bt a0 x3_2) < 48
     ·rw [if_pos c20] at H
      have c20b0 : decide ((bt a0 x3_2) < 48) = true := decide_eq_true c20
      clear c20
      by_cases c21 : (bt a0 x3_2) = 46
      ·rw [if_pos c21] at H
       have c21b0 : ((bt a0 x3_2) == 46) = true := beq_iff_eq.mpr c21
       have c21b1 : ((bt a0 x3_2) != 46) = false := bne_eq_false_iff_eq.mpr c21
       clear c21
       have H' := qas H
       clear H
       have p9 : 0 ≤ (x3_2 : Int) := qde (by first | (with_reducible assumption) | assumption)
       have q9 : x3_2 < (a0.size : Int) := qde (by first | (with_reducible assumption) | assumption)
       have hx9 := bt_at a0 x3_2
       replace p9 := eq_true p9
       replace q9 := eq_true q9
       go_wp2
       go_roundg k2
       case measure => have := HJ1.out; have := HK2.out; omega
       case rel => exact ⟨(wrap64 (x3_2 + 1)), (by first | rfl | (simp; done) | (simp [*]; done)), H', ⟨by have := HJ1.out; have := HK2.out; omega⟩, by repeat (first | exact Drawn0.refl _ | apply Drawn0.step)⟩
      rw [if_neg c21] at H
      have c21b0 : ((bt a0 x3_2) == 46) = false := beq_eq_false_iff_ne.mpr c21
      have c21b1 : ((bt a0 x3_2) != 46) = true := bne_iff_ne.mpr c21
      by_cases c22 : (bt a0 x3_2) = 45
      ·rw [if_pos c22] at H
       have c22b0 : ((bt a0 x3_2) == 45) = true := beq_iff_eq.mpr c22
       have c22b1 : ((bt a0 x3_2) != 45) = false := bne_eq_false_iff_eq.mpr c22
       clear c22
       have H' := qas H
       clear H
       have p9 : 0 ≤ (x3_2 : Int) := qde (by first | (with_reducible assumption) | assumption)
       have q9 : x3_2 < (a0.size : Int) := qde (by first | (with_reducible assumption) | assumption)
       have hx9 := bt_at a0 x3_2
       replace p9 := eq_true p9
       replace q9 := eq_true q9
       go_wp2
       go_roundg k2
       case measure => have := HJ1.out; have := HK2.out; omega
       case rel => exact ⟨(wrap64 (x3_2 + 1)), (by first | rfl | (simp; done) | (simp [*]; done)), H', ⟨by have := HJ1.out; have := HK2.out; omega⟩, by repeat (first | exact Drawn0.refl _ | apply Drawn0.step)⟩
      rw [if_neg c22] at H
      have c22b0 : ((bt a0 x3_2) == 45) = false := beq_eq_false_iff_ne.mpr c22
      have c22b1 : ((bt a0 x3_2) != 45) = true := bne_iff_ne.mpr c22
      by_cases c23 : (bt a0 x3_2) = 95
      rotate_left
      ·rw [if_neg c23] at H
       have c23b0 : ((bt a0 x3_2) == 95) = false := beq_eq_false_iff_ne.mpr c23
       have c23b1 : ((bt a0 x3_2) != 95) = true := bne_iff_ne.mpr c23
       obtain rfl := Option.some.inj H
       have p9 : 0 ≤ (x3_2 : Int) := qde (by first | (with_reducible assumption) | assumption)
       have q9 : x3_2 < (a0.size : Int) := qde (by first | (with_reducible assumption) | assumption)
       have hx9 := bt_at a0 x3_2
       replace p9 := eq_true p9
       replace q9 := eq_true q9
       go_wp2
       go_ret
       exact ⟨by first | rfl | (simp; done) | (simp [*]; done), by repeat (first | exact Drawn0.refl _ | apply Drawn0.step)⟩
      rw [if_pos c23] at H
      have c23b0 : ((bt a0 x3_2) == 95) = true := beq_iff_eq.mpr c23
      have c23b1 : ((bt a0 x3_2) != 95) = false := bne_eq_false_iff_eq.mpr c23
      clear c23
      have H' := qas H
      clear H
      have p9 : 0 ≤ (x3_2 : Int) := qde (by first | (with_reducible assumption) | assumption)
      have q9 : x3_2 < (a0.size : Int) := qde (by first | (with_reducible assumption) | assumption)
      have hx9 := bt_at a0 x3_2
      replace p9 := eq_true p9
      replace q9 := eq_true q9
      go_wp2
      go_roundg k2
      case measure => have := HJ1.out; have := HK2.out; omega
      case rel => exact ⟨(wrap64 (x3_2 + 1)), (by first | rfl | (simp; done) | (simp [*]; done)), H', ⟨by have := HJ1.out; have := HK2.out; omega⟩, by repeat (first | exact Drawn0.refl _ | apply Drawn0.step)⟩
     rw [if_neg c20] at H
     have c20b0 : decide ((bt a0 x3_2) < 48) = false := decide_eq_false c20
     clear c20
     by_cases c24 : (bt a0 x3_2) > 57
     rotate_left
     ·rw [if_neg c24] at H
      have c24b0 : decide (57 < (bt a0 x3_2)) = false := decide_eq_false c24
      clear c24
      have H' := qas H
      clear H
      have p9 : 0 ≤ (x3_2 : Int) := qde (by first | (with_reducible assumption) | assumption)
      have q9 : x3_2 < (a0.size : Int) := qde (by first | (with_reducible assumption) | assumption)
      have hx9 := bt_at a0 x3_2
      replace p9 := eq_true p9
      replace q9 := eq_true q9
      go_wp2
      go_roundg k2
      case measure => have := HJ1.out; have := HK2.out; omega
      case rel => exact ⟨(wrap64 (x3_2 + 1)), (by first | rfl | (simp; done) | (simp [*]; done)), H', ⟨by have := HJ1.out; have := HK2.out; omega⟩, by repeat (first | exact Drawn0.refl _ | apply Drawn0.step)⟩
     rw [if_pos c24] at H
     have c24b0 : decide (57 < (bt a0 x3_2)) = true := decide_eq_true c24
     clear c24
     by_cases c25 : (bt a0 x3_2) = 46
     ·rw [if_pos c25] at H
      have c25b0 : ((bt a0 x3_2) == 46) = true := beq_iff_eq.mpr c25
      have c25b1 : ((bt a0 x3_2) != 46) = false := bne_eq_false_iff_eq.mpr c25
      clear c25
      have H' := qas H
      clear H
      have p9 : 0 ≤ (x3_2 : Int) := qde (by first | (with_reducible assumption) | assumption)
      have q9 : x3_2 < (a0.size : Int) := qde (by first | (with_reducible assumption) | assumption)
      have hx9 := bt_at a0 x3_2
      replace p9 := eq_true p9
      replace q9 := eq_true q9
      go_wp2
      go_roundg k2
      case measure => have := HJ1.out; have := HK2.out; omega
      case rel => exact ⟨(wrap64 (x3_2 + 1)), (by first | rfl | (simp; done) | (simp [*]; done)), H', ⟨by have := HJ1.out; have := HK2.out; omega⟩, by repeat (first | exact Drawn0.refl _ | apply Drawn0.step)⟩
     rw [if_neg c25] at H
     have c25b0 : ((bt a0 x3_2) == 46) = false := beq_eq_false_iff_ne.mpr c25
     have c25b1 : ((bt a0 x3_2) != 46) = true := bne_iff_ne.mpr c25
     by_cases c26 : (bt a0 x3_2) = 45
     ·rw [if_pos c26] at H
      have c26b0 : ((bt a0 x3_2) == 45) = true := beq_iff_eq.mpr c26
      have c26b1 : ((bt a0 x3_2) != 45) = false := bne_eq_false_iff_eq.mpr c26
      clear c26
      have H' := qas H
      clear H
      have p9 : 0 ≤ (x3_2 : Int) := qde (by first | (with_reducible assumption) | assumption)
      have q9 : x3_2 < (a0.size : Int) := qde (by first | (with_reducible assumption) | assumption)
      have hx9 := bt_at a0 x3_2
      replace p9 := eq_true p9
      replace q9 := eq_true q9
      go_wp2
      go_roundg k2
      case measure => have := HJ1.out; have := HK2.out; omega
      case rel => exact ⟨(wrap64 (x3_2 + 1)), (by first | rfl | (simp; done) | (simp [*]; done)), H', ⟨by have := HJ1.out; have := HK2.out; omega⟩, by repeat (first | exact Drawn0.refl _ | apply Drawn0.step)⟩
     rw [if_neg c26] at H
     have c26b0 : ((bt a0 x3_2) == 45) = false := beq_eq_false_iff_ne.mpr c26
     have c26b1 : ((bt a0 x3_2) != 45) = true := bne_iff_ne.mpr c26
     by_cases c27 : (bt a0 x3_2) = 95
     rotate_left
     ·rw [if_neg c27] at H
      have c27b0 : ((bt a0 x3_2) == 95) = false := beq_eq_false_iff_ne.mpr c27
      have c27b1 : ((bt a0 x3_2) != 95) = true := bne_iff_ne.mpr c27
      obtain rfl := Option.some.inj H
      have p9 : 0 ≤ (x3_2 : Int) := qde (by first | (with_reducible assumption) | assumption)
      have q9 : x3_2 < (a0.size : Int) := qde (by first | (with_reducible assumption) | assumption)
      have hx9 := bt_at a0 x3_2
      replace p9 := eq_true p9
      replace q9 := eq_true q9
      go_wp2
      go_ret
      exact ⟨by first | rfl | (simp; done) | (simp [*]; done), by repeat (first | exact Drawn0.refl _ | apply Drawn0.step)⟩
     rw [if_pos c27] at H
     have c27b0 : ((bt a0 x3_2) == 95) = true := beq_iff_eq.mpr c27
     have c27b1 : ((bt a0 x3_2) != 95) = false := bne_eq_false_iff_eq.mpr c27
     clear c27
     have H' := qas H
     clear H
     have p9 : 0 ≤ (x3_2 : Int) := qde (by first | (with_reducible assumption) | assumption)
     have q9 : x3_2 < (a0.size : Int) := qde (by first | (with_reducible assumption) | assumption)
     have hx9 := bt_at a0 x3_2
     replace p9 := eq_true p9
     replace q9 := eq_true q9
     go_wp2
     go_roundg k2
     case measure => have := HJ1.out; have := HK2.out; omega
     case rel => exact ⟨(wrap64 (x3_2 + 1)), (by first | rfl | (simp; done) | (simp [*]; done)), H', ⟨by have := HJ1.out; have := HK2.out; omega⟩, by repeat (first | exact Drawn0.refl _ | apply Drawn0.step)⟩

attribute [local go_sem] max2_int min2_int max_two min_two max_three min_three max_four min_four   -- for this text's walks alone
set_option linter.unusedVariables false
set_option linter.unusedSimpArgs false

/-! ### pr_heldMay: function 58 -/
def pr_heldMay.j0 : Nat → Bool → ByteArray → Bool → List Int → Int → Int → Int → ByteArray → Int → Int → Option (Bool)
 | 0, _, _, _, _, _, _, _, _, _, _ => none
 | k + 1, x11, x163000, x163001, x163002, x163003, x163004, x163005, x163006, x163007, x163008 => if x11 = true then (some false) else (if x163001 = true then (if x163005 = 0 then (if x163006.toList = ([] : List UInt8) then (if x163007 = 0 then (some (x163008 == 0)) else (some false)) else (some false)) else (some false)) else (if x163007 < 0 then (some false) else (if x163007 > 300 then (some false) else (if x163008 < 0 then (some false) else (if x163008 > 4294967295 then (some false) else (if x163005 = 0 then (if (x163006.size : Int) = x163007 then (some true) else (if x163005 = 8 then (some (decide ((x163006.size : Int) ≤ 300))) else (some false))) else (if x163005 = 8 then (some (decide ((x163006.size : Int) ≤ 300))) else (some false))))))))
def pr_heldMay.f (k : Nat) (a0_0 : ByteArray) (a0_1 : Bool) (l0_2 : List Int) (a0_3 : Int) (a0_4 : Int) (a0_5 : Int) (a0_6 : ByteArray) (a0_7 : Int) (a0_8 : Int) : Option (Bool) := (pr_NameMay.f k a0_0).bind fun t163 => (if t163 = true then ((pr_headMay.f k a0_0 a0_1 l0_2 a0_3 a0_4 a0_5 a0_6 a0_7 a0_8).bind fun t164 => (pr_heldMay.j0 k (!t164) a0_0 a0_1 l0_2 a0_3 a0_4 a0_5 a0_6 a0_7 a0_8)) else (pr_heldMay.j0 k true a0_0 a0_1 l0_2 a0_3 a0_4 a0_5 a0_6 a0_7 a0_8))
theorem pr_heldMay.mono_l : ∀ k, (∀ y0 y1 y2 y3 y4 y5 y6 y7 y8 y9, LeO (pr_heldMay.j0 k y0 y1 y2 y3 y4 y5 y6 y7 y8 y9) (pr_heldMay.j0 (k + 1) y0 y1 y2 y3 y4 y5 y6 y7 y8 y9))
 | 0 => fun _ _ _ _ _ _ _ _ _ _ r h => by simp [pr_heldMay.j0] at h
 | k + 1 => by
  have ih0 := pr_heldMay.mono_l k
  ·intro y0 y1 y2 y3 y4 y5 y6 y7 y8 y9
   unfold pr_heldMay.j0
   repeat' first
   | (with_reducible exact ih0 _ _ _ _ _ _ _ _ _ _)
   | (with_reducible exact pr_NameMay.mono _ _)
   | (with_reducible exact pr_headMay.mono _ _ _ _ _ _ _ _ _ _)
   | (with_reducible exact LeO.refl _)
   | (with_reducible exact LeO.none _)
   | (with_reducible refine LeO.ite ?_ ?_)
   | (with_reducible refine LeO.bind ?_ (fun _ => ?_))
   | exact ih0 _ _ _ _ _ _ _ _ _ _
   | exact pr_NameMay.mono _ _
   | exact pr_headMay.mono _ _ _ _ _ _ _ _ _ _
   | exact LeO.none _
   | refine LeO.ite ?_ ?_
   | refine LeO.bind ?_ (fun _ => ?_)
theorem pr_heldMay.mono : ∀ a0 a1 a2 a3 a4 a5 a6 a7 a8 k, LeO (pr_heldMay.f k a0 a1 a2 a3 a4 a5 a6 a7 a8) (pr_heldMay.f (k + 1) a0 a1 a2 a3 a4 a5 a6 a7 a8) := by
 intro a0 a1 a2 a3 a4 a5 a6 a7 a8 k
 have ih0 := pr_heldMay.mono_l k
 unfold pr_heldMay.f
 repeat' first
   | (with_reducible exact ih0 _ _ _ _ _ _ _ _ _ _)
   | (with_reducible exact pr_NameMay.mono _ _)
   | (with_reducible exact pr_headMay.mono _ _ _ _ _ _ _ _ _ _)
   | (with_reducible exact LeO.refl _)
   | (with_reducible exact LeO.none _)
   | (with_reducible refine LeO.ite ?_ ?_)
   | (with_reducible refine LeO.bind ?_ (fun _ => ?_))
   | exact ih0 _ _ _ _ _ _ _ _ _ _
   | exact pr_NameMay.mono _ _
   | exact pr_headMay.mono _ _ _ _ _ _ _ _ _ _
   | exact LeO.none _
   | refine LeO.ite ?_ ?_
   | refine LeO.bind ?_ (fun _ => ?_)
set_option maxHeartbeats 8000000 in
set_option maxRecDepth 100000 in
theorem pr_heldMay.calls (k : Nat) (a0_0 : ByteArray) (a0_1 : Bool) (A0_2 : Option Addr) (c0_2 : Nat) (l0_2 : List Int) (a0_3 : Int) (a0_4 : Int) (a0_5 : Int) (a0_6 : ByteArray) (a0_7 : Int) (a0_8 : Int) (r : Bool) (w : World) (hr0_2 : Kd.C (Kd.int .i64) w A0_2 l0_2.length l0_2) (hc0_2 : l0_2.length ≤ c0_2) (h : pr_heldMay.f k a0_0 a0_1 l0_2 a0_3 a0_4 a0_5 a0_6 a0_7 a0_8 = some r) :
  Calls Tryd.prog 58 #[.agg #[.string a0_0, .bool a0_1, .slice A0_2 l0_2.length c0_2, .int .i64 a0_3, .int .i64 a0_4, .int .i64 a0_5, .string a0_6, .int .i64 a0_7, .int .i64 a0_8]] w fun e w' => e = .returned (.bool r) ∧ Below w.heap.size w w' := by
 have hu39 := Tryd.underlying39
 have HR0_2 := qas hr0_2
 have HC0_2 := qas hc0_2
 clear hr0_2 hc0_2
 have HB := qas (Below.refl w.heap.size w)
 have H : ((pr_NameMay.f k a0_0).bind fun t163 => (if t163 = true then ((pr_headMay.f k a0_0 a0_1 l0_2 a0_3 a0_4 a0_5 a0_6 a0_7 a0_8).bind fun t164 => (pr_heldMay.j0 k (!t164) a0_0 a0_1 l0_2 a0_3 a0_4 a0_5 a0_6 a0_7 a0_8)) else (pr_heldMay.j0 k true a0_0 a0_1 l0_2 a0_3 a0_4 a0_5 a0_6 a0_7 a0_8))) = some r := h
 clear h
 have HC2 := qas H
 clear H
 go_enter Tryd.func58, Tryd.ntmps58
 go_upto_region 1 with (first | ((with_reducible refine gate_dst (N := 1) rfl ?_); (try (refine gate_guard (by rfl) ?_; dsimp only)); refine box_event ?hg (N := 1) ?hd (cs := #[.string a0_0, .bool a0_1, .slice A0_2 l0_2.length c0_2, .int .i64 a0_3, .int .i64 a0_4, .int .i64 a0_5, .string a0_6, .int .i64 a0_7, .int .i64 a0_8]) (t := 39) ?hr ?_; (case hd => rfl); (case hg => rfl); (case hr => first | (go_simp; done) | (go_simp; rfl)); intro gb162 hg w3 hbox hb; have n0_ := qas (below_step (by repeat (first | (with_reducible first | exact HB.out | apply qbA | apply qbB | apply qbC) | exact HB.out)) hb); have n1_ := qas (hbox); have n2_ := qas ((by rw [hg]; exact (below_size (by repeat (first | (with_reducible first | exact HB.out | apply qbA | apply qbB | apply qbC) | exact HB.out))) : w.heap.size ≤ gb162)); have n3_ := qas ((by rw [hg]; exact (below_size (by repeat (first | (with_reducible first | exact HB.out | apply qbA | apply qbB | apply qbC) | exact HB.out))) : w.heap.size ≤ gb162)); clear HB; have HB := n0_; have BK162 := n1_; have GW162 := n2_; have GE162 := n3_; clear n0_ n1_ n2_ n3_; clear hb hbox hg))
 (try simp only [Act.put, qsA, qsB, qsC])
 go_cut [11] (fun v11 wc => ∃ (kq : Nat) (x11_1 : Bool), v11 = .bool x11_1 ∧ Aside0 (pr_heldMay.j0 kq x11_1 a0_0 a0_1 l0_2 a0_3 a0_4 a0_5 a0_6 a0_7 a0_8 = some r) ∧ Aside0 (kq ≤ k) ∧ Aside0 (wc.heap[gb162]? = some (.cells #[.string a0_0, .bool a0_1, (.slice A0_2 l0_2.length c0_2), .int .i64 a0_3, .int .i64 a0_4, .int .i64 a0_5, .string a0_6, .int .i64 a0_7, .int .i64 a0_8] 39 (0, 0))) ∧ Aside0 (Below w.heap.size w wc))
 case first =>
  have H := HC2.out
  clear HC2
  replace H := Option.bind_eq_some_iff.mp H
  obtain ⟨t163, A40, H⟩ := H
  replace H : (if t163 = true then ((pr_headMay.f k a0_0 a0_1 l0_2 a0_3 a0_4 a0_5 a0_6 a0_7 a0_8).bind fun t164 => (pr_heldMay.j0 k (!t164) a0_0 a0_1 l0_2 a0_3 a0_4 a0_5 a0_6 a0_7 a0_8)) else (pr_heldMay.j0 k true a0_0 a0_1 l0_2 a0_3 a0_4 a0_5 a0_6 a0_7 a0_8)) = some r := H
  have A4 := qas A40
  clear A40
  by_cases c5 : t163 = true
  rotate_left
  ·replace c5 := Bool.eq_false_iff.mpr c5
   subst c5
   have H1 : (pr_heldMay.j0 k true a0_0 a0_1 l0_2 a0_3 a0_4 a0_5 a0_6 a0_7 a0_8) = some r := by rw [if_neg (show ¬ (false = true) by decide)] at H; exact H
   clear H
   have H := H1
   clear H1
   have H' := qas H
   clear H
   have hcz9_0 : w3.cell? ⟨gb162, 0, none⟩ = some (.string a0_0) := (blk_cell BK162.out 0).trans rfl
   have hcz9_1 : w3.cell? ⟨gb162, 1, none⟩ = some (.bool a0_1) := (blk_cell BK162.out 1).trans rfl
   have hcz9_2 : w3.cell? ⟨gb162, 2, none⟩ = some (.slice A0_2 l0_2.length c0_2) := (blk_cell BK162.out 2).trans rfl
   have hcz9_3 : w3.cell? ⟨gb162, 3, none⟩ = some (.int .i64 a0_3) := (blk_cell BK162.out 3).trans rfl
   have hcz9_4 : w3.cell? ⟨gb162, 4, none⟩ = some (.int .i64 a0_4) := (blk_cell BK162.out 4).trans rfl
   have hcz9_5 : w3.cell? ⟨gb162, 5, none⟩ = some (.int .i64 a0_5) := (blk_cell BK162.out 5).trans rfl
   have hcz9_6 : w3.cell? ⟨gb162, 6, none⟩ = some (.string a0_6) := (blk_cell BK162.out 6).trans rfl
   have hcz9_7 : w3.cell? ⟨gb162, 7, none⟩ = some (.int .i64 a0_7) := (blk_cell BK162.out 7).trans rfl
   have hcz9_8 : w3.cell? ⟨gb162, 8, none⟩ = some (.int .i64 a0_8) := (blk_cell BK162.out 8).trans rfl
   have hfz9_0 := blk_frozen BK162.out 0
   have hfz9_1 := blk_frozen BK162.out 1
   have hfz9_2 := blk_frozen BK162.out 2
   have hfz9_3 := blk_frozen BK162.out 3
   have hfz9_4 := blk_frozen BK162.out 4
   have hfz9_5 := blk_frozen BK162.out 5
   have hfz9_6 := blk_frozen BK162.out 6
   have hfz9_7 := blk_frozen BK162.out 7
   have hfz9_8 := blk_frozen BK162.out 8
   go_wp2_with (first | ((with_reducible refine gate_callee (f := 87) rfl ?_); refine goesL_ (some 5) rfl rfl Tryd.func87 (by kernel_rfl) rfl #[.string a0_0] rfl (by (try simp only [List.map_toArray, List.map_cons, List.map_nil]); first | done | rfl | (simp only [List.length_drop, List.length_take]; rfl)) ?_; (with_reducible refine (pr_NameMay.calls k a0_0 false _ A4.out).mono ?_); rintro e w' ⟨rfl, ⟨nd, rfl⟩⟩; refine ⟨_, rfl, ?_⟩))
   go_meet
   case rel => exact ⟨_, (true), (by first | rfl | (simp; done) | (simp [*]; done)), H', ⟨by first | omega | exact Nat.le_refl _⟩, ⟨by (with_reducible repeat (first | refine qkA ?_ _ | refine qkB ?_ | refine qkC ?_ _)); exact BK162.out⟩, ⟨by repeat (first | (with_reducible first | exact HB.out | apply qbA | apply qbB | apply qbC | refine below_set ?_ GE162.out) | exact HB.out)⟩⟩
  subst c5
  have H1 : ((pr_headMay.f k a0_0 a0_1 l0_2 a0_3 a0_4 a0_5 a0_6 a0_7 a0_8).bind fun t164 => (pr_heldMay.j0 k (!t164) a0_0 a0_1 l0_2 a0_3 a0_4 a0_5 a0_6 a0_7 a0_8)) = some r := by rw [if_pos rfl] at H; exact H
  clear H
  have H := H1
  clear H1
  replace H := Option.bind_eq_some_iff.mp H
  obtain ⟨t164, A60, H⟩ := H
  replace H : (pr_heldMay.j0 k (!t164) a0_0 a0_1 l0_2 a0_3 a0_4 a0_5 a0_6 a0_7 a0_8) = some r := H
  have A6 := qas A60
  clear A60
  have H' := qas H
  clear H
  have hcz7_0 : w3.cell? ⟨gb162, 0, none⟩ = some (.string a0_0) := (blk_cell BK162.out 0).trans rfl
  have hcz7_1 : w3.cell? ⟨gb162, 1, none⟩ = some (.bool a0_1) := (blk_cell BK162.out 1).trans rfl
  have hcz7_2 : w3.cell? ⟨gb162, 2, none⟩ = some (.slice A0_2 l0_2.length c0_2) := (blk_cell BK162.out 2).trans rfl
  have hcz7_3 : w3.cell? ⟨gb162, 3, none⟩ = some (.int .i64 a0_3) := (blk_cell BK162.out 3).trans rfl
  have hcz7_4 : w3.cell? ⟨gb162, 4, none⟩ = some (.int .i64 a0_4) := (blk_cell BK162.out 4).trans rfl
  have hcz7_5 : w3.cell? ⟨gb162, 5, none⟩ = some (.int .i64 a0_5) := (blk_cell BK162.out 5).trans rfl
  have hcz7_6 : w3.cell? ⟨gb162, 6, none⟩ = some (.string a0_6) := (blk_cell BK162.out 6).trans rfl
  have hcz7_7 : w3.cell? ⟨gb162, 7, none⟩ = some (.int .i64 a0_7) := (blk_cell BK162.out 7).trans rfl
  have hcz7_8 : w3.cell? ⟨gb162, 8, none⟩ = some (.int .i64 a0_8) := (blk_cell BK162.out 8).trans rfl
  have hfz7_0 := blk_frozen BK162.out 0
  have hfz7_1 := blk_frozen BK162.out 1
  have hfz7_2 := blk_frozen BK162.out 2
  have hfz7_3 := blk_frozen BK162.out 3
  have hfz7_4 := blk_frozen BK162.out 4
  have hfz7_5 := blk_frozen BK162.out 5
  have hfz7_6 := blk_frozen BK162.out 6
  have hfz7_7 := blk_frozen BK162.out 7
  have hfz7_8 := blk_frozen BK162.out 8
  go_wp2_with (first | ((with_reducible refine gate_callee (f := 87) rfl ?_); refine goesL_ (some 5) rfl rfl Tryd.func87 (by kernel_rfl) rfl #[.string a0_0] rfl (by (try simp only [List.map_toArray, List.map_cons, List.map_nil]); first | done | rfl | (simp only [List.length_drop, List.length_take]; rfl)) ?_; (with_reducible refine (pr_NameMay.calls k a0_0 true _ A4.out).mono ?_); rintro e w' ⟨rfl, ⟨nd, rfl⟩⟩; refine ⟨_, rfl, ?_⟩) | (go_at_call 82; (with_reducible refine (pr_headMay.calls k a0_0 a0_1 _ _ l0_2 a0_3 a0_4 a0_5 a0_6 a0_7 a0_8 t164 _ ?side1 ?side2 A6.out).mono ?_); (case side1 => repeat (first | exact (Kd.C_below HR0_2.out (by repeat (first | (with_reducible first | exact HB.out | apply qbA | apply qbB | apply qbC | refine below_set ?_ GE162.out) | exact HB.out))) | (with_reducible refine Kd.C_alloc ?_ _) | (with_reducible refine Kd.C_drewN ?_ _) | (with_reducible refine Kd.C_drew ?_))); (case side2 => exact HC0_2.out); rintro e w8 ⟨rfl, hb⟩; have n0_ := qas (blk_below (g := gb162) (o := .cells #[.string a0_0, .bool a0_1, .slice A0_2 l0_2.length c0_2, .int .i64 a0_3, .int .i64 a0_4, .int .i64 a0_5, .string a0_6, .int .i64 a0_7, .int .i64 a0_8] 39 (0, 0)) (by (with_reducible repeat (first | refine qkA ?_ _ | refine qkB ?_ | refine qkC ?_ _)); exact BK162.out) hb); have n1_ := qas (below_step (by repeat (first | (with_reducible first | exact HB.out | apply qbA | apply qbB | apply qbC | refine below_set ?_ GE162.out) | exact HB.out)) hb); clear BK162; clear HB; have BK162 := n0_; have HB := n1_; clear n0_ n1_; (try clear hb); (try clear hb2); (try clear hk); (try clear hi)))
  go_meet
  case rel => exact ⟨_, (!t164), (by first | rfl | (simp; done) | (simp [*]; done)), H', ⟨by first | omega | exact Nat.le_refl _⟩, ⟨by (with_reducible repeat (first | refine qkA ?_ _ | refine qkB ?_ | refine qkC ?_ _)); exact BK162.out⟩, ⟨by repeat (first | (with_reducible first | exact HB.out | apply qbA | apply qbB | apply qbC | refine below_set ?_ GE162.out) | exact HB.out)⟩⟩
 case rest =>
  clear HC2
  try clear p2
  try clear c5
  try clear c8
  try clear hcz7_0
  try clear hcz7_1
  try clear hcz7_2
  try clear hcz7_3
  try clear hcz7_4
  try clear hcz7_5
  try clear hcz7_6
  try clear hcz7_7
  try clear hcz7_8
  try clear hcz9_0
  try clear hcz9_1
  try clear hcz9_2
  try clear hcz9_3
  try clear hcz9_4
  try clear hcz9_5
  try clear hcz9_6
  try clear hcz9_7
  try clear hcz9_8
  try clear hfz7_0
  try clear hfz7_1
  try clear hfz7_2
  try clear hfz7_3
  try clear hfz7_4
  try clear hfz7_5
  try clear hfz7_6
  try clear hfz7_7
  try clear hfz7_8
  try clear hfz9_0
  try clear hfz9_1
  try clear hfz9_2
  try clear hfz9_3
  try clear hfz9_4
  try clear hfz9_5
  try clear hfz9_6
  try clear hfz9_7
  try clear hfz9_8
  obtain ⟨kq, x11_1, rfl, HA, HJ1, BK162, HB⟩ := hcut
  cases kq with
  | zero => exact absurd HA.out (by simp [pr_heldMay.j0])
  | succ kj1 =>
   have H := HA.out
   clear HA
   simp only [pr_heldMay.j0] at H
   by_cases c10 : x11_1 = true
   ·subst c10
    have H1 : (some false) = some r := by rw [if_pos rfl] at H; exact H
    clear H
    have H := H1
    clear H1
    obtain rfl := Option.some.inj H
    go_wp2
    go_ret
    exact ⟨by first | rfl | (simp [errW_none, errW_some] <;> rfl) | (simp [*, errW_none, errW_some] <;> rfl), by repeat (first | (with_reducible first | exact HB.out | apply qbA | apply qbB | apply qbC | refine below_set ?_ GE162.out) | exact HB.out)⟩
   replace c10 := Bool.eq_false_iff.mpr c10
   subst c10
   have H1 : (if a0_1 = true then (if a0_5 = 0 then (if a0_6.toList = ([] : List UInt8) then (if a0_7 = 0 then (some (a0_8 == 0)) else (some false)) else (some false)) else (some false)) else (if a0_7 < 0 then (some false) else (if a0_7 > 300 then (some false) else (if a0_8 < 0 then (some false) else (if a0_8 > 4294967295 then (some false) else (if a0_5 = 0 then (if (a0_6.size : Int) = a0_7 then (some true) else (if a0_5 = 8 then (some (decide ((a0_6.size : Int) ≤ 300))) else (some false))) else (if a0_5 = 8 then (some (decide ((a0_6.size : Int) ≤ 300))) else (some false)))))))) = some r := by rw [if_neg (show ¬ (false = true) by decide)] at H; exact H
   clear H
   have H := H1
   clear H1
   by_cases c11 : a0_1 = true
   ·subst c11
    have H1 : (if a0_5 = 0 then (if a0_6.toList = ([] : List UInt8) then (if a0_7 = 0 then (some (a0_8 == 0)) else (some false)) else (some false)) else (some false)) = some r := by rw [if_pos rfl] at H; exact H
    clear H
    have H := H1
    clear H1
    by_cases c12 : a0_5 = 0
    rotate_left
    ·rw [if_neg c12] at H
     have c12b0 : (a0_5 == 0) = false := beq_eq_false_iff_ne.mpr c12
     have c12b1 : (a0_5 != 0) = true := bne_iff_ne.mpr c12
     obtain rfl := Option.some.inj H
     have hcz18_0 : wc.cell? ⟨gb162, 0, none⟩ = some (.string a0_0) := (blk_cell BK162.out 0).trans rfl
     have hcz18_1 : wc.cell? ⟨gb162, 1, none⟩ = some (.bool true) := (blk_cell BK162.out 1).trans rfl
     have hcz18_2 : wc.cell? ⟨gb162, 2, none⟩ = some (.slice A0_2 l0_2.length c0_2) := (blk_cell BK162.out 2).trans rfl
     have hcz18_3 : wc.cell? ⟨gb162, 3, none⟩ = some (.int .i64 a0_3) := (blk_cell BK162.out 3).trans rfl
     have hcz18_4 : wc.cell? ⟨gb162, 4, none⟩ = some (.int .i64 a0_4) := (blk_cell BK162.out 4).trans rfl
     have hcz18_5 : wc.cell? ⟨gb162, 5, none⟩ = some (.int .i64 a0_5) := (blk_cell BK162.out 5).trans rfl
     have hcz18_6 : wc.cell? ⟨gb162, 6, none⟩ = some (.string a0_6) := (blk_cell BK162.out 6).trans rfl
     have hcz18_7 : wc.cell? ⟨gb162, 7, none⟩ = some (.int .i64 a0_7) := (blk_cell BK162.out 7).trans rfl
     have hcz18_8 : wc.cell? ⟨gb162, 8, none⟩ = some (.int .i64 a0_8) := (blk_cell BK162.out 8).trans rfl
     have hfz18_0 := blk_frozen BK162.out 0
     have hfz18_1 := blk_frozen BK162.out 1
     have hfz18_2 := blk_frozen BK162.out 2
     have hfz18_3 := blk_frozen BK162.out 3
     have hfz18_4 := blk_frozen BK162.out 4
     have hfz18_5 := blk_frozen BK162.out 5
     have hfz18_6 := blk_frozen BK162.out 6
     have hfz18_7 := blk_frozen BK162.out 7
     have hfz18_8 := blk_frozen BK162.out 8
     go_wp2
     go_ret
     exact ⟨by first | rfl | (simp [errW_none, errW_some] <;> rfl) | (simp [*, errW_none, errW_some] <;> rfl), by repeat (first | (with_reducible first | exact HB.out | apply qbA | apply qbB | apply qbC | refine below_set ?_ GE162.out) | exact HB.out)⟩
    rw [if_pos c12] at H
    have c12b0 : (a0_5 == 0) = true := beq_iff_eq.mpr c12
    have c12b1 : (a0_5 != 0) = false := bne_eq_false_iff_eq.mpr c12
    clear c12
    by_cases c13 : a0_6.toList = ([] : List UInt8)
    rotate_left
    ·rw [if_neg c13] at H
     have c13b0 : (a0_6.toList == ([] : List UInt8)) = false := beq_eq_false_iff_ne.mpr c13
     have c13b1 : (a0_6.toList != ([] : List UInt8)) = true := bne_iff_ne.mpr c13
     obtain rfl := Option.some.inj H
     have hcz17_0 : wc.cell? ⟨gb162, 0, none⟩ = some (.string a0_0) := (blk_cell BK162.out 0).trans rfl
     have hcz17_1 : wc.cell? ⟨gb162, 1, none⟩ = some (.bool true) := (blk_cell BK162.out 1).trans rfl
     have hcz17_2 : wc.cell? ⟨gb162, 2, none⟩ = some (.slice A0_2 l0_2.length c0_2) := (blk_cell BK162.out 2).trans rfl
     have hcz17_3 : wc.cell? ⟨gb162, 3, none⟩ = some (.int .i64 a0_3) := (blk_cell BK162.out 3).trans rfl
     have hcz17_4 : wc.cell? ⟨gb162, 4, none⟩ = some (.int .i64 a0_4) := (blk_cell BK162.out 4).trans rfl
     have hcz17_5 : wc.cell? ⟨gb162, 5, none⟩ = some (.int .i64 a0_5) := (blk_cell BK162.out 5).trans rfl
     have hcz17_6 : wc.cell? ⟨gb162, 6, none⟩ = some (.string a0_6) := (blk_cell BK162.out 6).trans rfl
     have hcz17_7 : wc.cell? ⟨gb162, 7, none⟩ = some (.int .i64 a0_7) := (blk_cell BK162.out 7).trans rfl
     have hcz17_8 : wc.cell? ⟨gb162, 8, none⟩ = some (.int .i64 a0_8) := (blk_cell BK162.out 8).trans rfl
     have hfz17_0 := blk_frozen BK162.out 0
     have hfz17_1 := blk_frozen BK162.out 1
     have hfz17_2 := blk_frozen BK162.out 2
     have hfz17_3 := blk_frozen BK162.out 3
     have hfz17_4 := blk_frozen BK162.out 4
     have hfz17_5 := blk_frozen BK162.out 5
     have hfz17_6 := blk_frozen BK162.out 6
     have hfz17_7 := blk_frozen BK162.out 7
     have hfz17_8 := blk_frozen BK162.out 8
     go_wp2
     go_ret
     exact ⟨by first | rfl | (simp [errW_none, errW_some] <;> rfl) | (simp [*, errW_none, errW_some] <;> rfl), by repeat (first | (with_reducible first | exact HB.out | apply qbA | apply qbB | apply qbC | refine below_set ?_ GE162.out) | exact HB.out)⟩
    rw [if_pos c13] at H
    have c13b0 : (a0_6.toList == ([] : List UInt8)) = true := beq_iff_eq.mpr c13
    have c13b1 : (a0_6.toList != ([] : List UInt8)) = false := bne_eq_false_iff_eq.mpr c13
    clear c13
    by_cases c14 : a0_7 = 0
    rotate_left
    ·rw [if_neg c14] at H
     have c14b0 : (a0_7 == 0) = false := beq_eq_false_iff_ne.mpr c14
     have c14b1 : (a0_7 != 0) = true := bne_iff_ne.mpr c14
     obtain rfl := Option.some.inj H
     have hcz16_0 : wc.cell? ⟨gb162, 0, none⟩ = some (.string a0_0) := (blk_cell BK162.out 0).trans rfl
     have hcz16_1 : wc.cell? ⟨gb162, 1, none⟩ = some (.bool true) := (blk_cell BK162.out 1).trans rfl
     have hcz16_2 : wc.cell? ⟨gb162, 2, none⟩ = some (.slice A0_2 l0_2.length c0_2) := (blk_cell BK162.out 2).trans rfl
     have hcz16_3 : wc.cell? ⟨gb162, 3, none⟩ = some (.int .i64 a0_3) := (blk_cell BK162.out 3).trans rfl
     have hcz16_4 : wc.cell? ⟨gb162, 4, none⟩ = some (.int .i64 a0_4) := (blk_cell BK162.out 4).trans rfl
     have hcz16_5 : wc.cell? ⟨gb162, 5, none⟩ = some (.int .i64 a0_5) := (blk_cell BK162.out 5).trans rfl
     have hcz16_6 : wc.cell? ⟨gb162, 6, none⟩ = some (.string a0_6) := (blk_cell BK162.out 6).trans rfl
     have hcz16_7 : wc.cell? ⟨gb162, 7, none⟩ = some (.int .i64 a0_7) := (blk_cell BK162.out 7).trans rfl
     have hcz16_8 : wc.cell? ⟨gb162, 8, none⟩ = some (.int .i64 a0_8) := (blk_cell BK162.out 8).trans rfl
     have hfz16_0 := blk_frozen BK162.out 0
     have hfz16_1 := blk_frozen BK162.out 1
     have hfz16_2 := blk_frozen BK162.out 2
     have hfz16_3 := blk_frozen BK162.out 3
     have hfz16_4 := blk_frozen BK162.out 4
     have hfz16_5 := blk_frozen BK162.out 5
     have hfz16_6 := blk_frozen BK162.out 6
     have hfz16_7 := blk_frozen BK162.out 7
     have hfz16_8 := blk_frozen BK162.out 8
     go_wp2
     go_ret
     exact ⟨by first | rfl | (simp [errW_none, errW_some] <;> rfl) | (simp [*, errW_none, errW_some] <;> rfl), by repeat (first | (with_reducible first | exact HB.out | apply qbA | apply qbB | apply qbC | refine below_set ?_ GE162.out) | exact HB.out)⟩
    rw [if_pos c14] at H
    have c14b0 : (a0_7 == 0) = true := beq_iff_eq.mpr c14
    have c14b1 : (a0_7 != 0) = false := bne_eq_false_iff_eq.mpr c14
    clear c14
    obtain rfl := Option.some.inj H
    have hcz15_0 : wc.cell? ⟨gb162, 0, none⟩ = some (.string a0_0) := (blk_cell BK162.out 0).trans rfl
    have hcz15_1 : wc.cell? ⟨gb162, 1, none⟩ = some (.bool true) := (blk_cell BK162.out 1).trans rfl
    have hcz15_2 : wc.cell? ⟨gb162, 2, none⟩ = some (.slice A0_2 l0_2.length c0_2) := (blk_cell BK162.out 2).trans rfl
    have hcz15_3 : wc.cell? ⟨gb162, 3, none⟩ = some (.int .i64 a0_3) := (blk_cell BK162.out 3).trans rfl
    have hcz15_4 : wc.cell? ⟨gb162, 4, none⟩ = some (.int .i64 a0_4) := (blk_cell BK162.out 4).trans rfl
    have hcz15_5 : wc.cell? ⟨gb162, 5, none⟩ = some (.int .i64 a0_5) := (blk_cell BK162.out 5).trans rfl
    have hcz15_6 : wc.cell? ⟨gb162, 6, none⟩ = some (.string a0_6) := (blk_cell BK162.out 6).trans rfl
    have hcz15_7 : wc.cell? ⟨gb162, 7, none⟩ = some (.int .i64 a0_7) := (blk_cell BK162.out 7).trans rfl
    have hcz15_8 : wc.cell? ⟨gb162, 8, none⟩ = some (.int .i64 a0_8) := (blk_cell BK162.out 8).trans rfl
    have hfz15_0 := blk_frozen BK162.out 0
    have hfz15_1 := blk_frozen BK162.out 1
    have hfz15_2 := blk_frozen BK162.out 2
    have hfz15_3 := blk_frozen BK162.out 3
    have hfz15_4 := blk_frozen BK162.out 4
    have hfz15_5 := blk_frozen BK162.out 5
    have hfz15_6 := blk_frozen BK162.out 6
    have hfz15_7 := blk_frozen BK162.out 7
    have hfz15_8 := blk_frozen BK162.out 8
    go_wp2
    go_ret
    exact ⟨by first | rfl | (simp [errW_none, errW_some] <;> rfl) | (simp [*, errW_none, errW_some] <;> rfl), by repeat (first | (with_reducible first | exact HB.out | apply qbA | apply qbB | apply qbC | refine below_set ?_ GE162.out) | exact HB.out)⟩
   replace c11 := Bool.eq_false_iff.mpr c11
   subst c11
   have H1 : (if a0_7 < 0 then (some false) else (if a0_7 > 300 then (some false) else (if a0_8 < 0 then (some false) else (if a0_8 > 4294967295 then (some false) else (if a0_5 = 0 then (if (a0_6.size : Int) = a0_7 then (some true) else (if a0_5 = 8 then (some (decide ((a0_6.size : Int) ≤ 300))) else (some false))) else (if a0_5 = 8 then (some (decide ((a0_6.size : Int) ≤ 300))) else (some false))))))) = some r := by rw [if_neg (show ¬ (false = true) by decide)] at H; exact H
   clear H
   have H := H1
   clear H1
   by_cases c19 : a0_7 < 0
   ·rw [if_pos c19] at H
    have c19b0 : decide (a0_7 < 0) = true := decide_eq_true c19
    clear c19
    obtain rfl := Option.some.inj H
    have hcz20_0 : wc.cell? ⟨gb162, 0, none⟩ = some (.string a0_0) := (blk_cell BK162.out 0).trans rfl
    have hcz20_1 : wc.cell? ⟨gb162, 1, none⟩ = some (.bool false) := (blk_cell BK162.out 1).trans rfl
    have hcz20_2 : wc.cell? ⟨gb162, 2, none⟩ = some (.slice A0_2 l0_2.length c0_2) := (blk_cell BK162.out 2).trans rfl
    have hcz20_3 : wc.cell? ⟨gb162, 3, none⟩ = some (.int .i64 a0_3) := (blk_cell BK162.out 3).trans rfl
    have hcz20_4 : wc.cell? ⟨gb162, 4, none⟩ = some (.int .i64 a0_4) := (blk_cell BK162.out 4).trans rfl
    have hcz20_5 : wc.cell? ⟨gb162, 5, none⟩ = some (.int .i64 a0_5) := (blk_cell BK162.out 5).trans rfl
    have hcz20_6 : wc.cell? ⟨gb162, 6, none⟩ = some (.string a0_6) := (blk_cell BK162.out 6).trans rfl
    have hcz20_7 : wc.cell? ⟨gb162, 7, none⟩ = some (.int .i64 a0_7) := (blk_cell BK162.out 7).trans rfl
    have hcz20_8 : wc.cell? ⟨gb162, 8, none⟩ = some (.int .i64 a0_8) := (blk_cell BK162.out 8).trans rfl
    have hfz20_0 := blk_frozen BK162.out 0
    have hfz20_1 := blk_frozen BK162.out 1
    have hfz20_2 := blk_frozen BK162.out 2
    have hfz20_3 := blk_frozen BK162.out 3
    have hfz20_4 := blk_frozen BK162.out 4
    have hfz20_5 := blk_frozen BK162.out 5
    have hfz20_6 := blk_frozen BK162.out 6
    have hfz20_7 := blk_frozen BK162.out 7
    have hfz20_8 := blk_frozen BK162.out 8
    go_wp2
    go_ret
    exact ⟨by first | rfl | (simp [errW_none, errW_some] <;> rfl) | (simp [*, errW_none, errW_some] <;> rfl), by repeat (first | (with_reducible first | exact HB.out | apply qbA | apply qbB | apply qbC | refine below_set ?_ GE162.out) | exact HB.out)⟩
   rw [if_neg c19] at H
   have c19b0 : decide (a0_7 < 0) = false := decide_eq_false c19
   clear c19
   by_cases c21 : a0_7 > 300
   ·rw [if_pos c21] at H
    have c21b0 : decide (300 < a0_7) = true := decide_eq_true c21
    clear c21
    obtain rfl := Option.some.inj H
    have hcz22_0 : wc.cell? ⟨gb162, 0, none⟩ = some (.string a0_0) := (blk_cell BK162.out 0).trans rfl
    have hcz22_1 : wc.cell? ⟨gb162, 1, none⟩ = some (.bool false) := (blk_cell BK162.out 1).trans rfl
    have hcz22_2 : wc.cell? ⟨gb162, 2, none⟩ = some (.slice A0_2 l0_2.length c0_2) := (blk_cell BK162.out 2).trans rfl
    have hcz22_3 : wc.cell? ⟨gb162, 3, none⟩ = some (.int .i64 a0_3) := (blk_cell BK162.out 3).trans rfl
    have hcz22_4 : wc.cell? ⟨gb162, 4, none⟩ = some (.int .i64 a0_4) := (blk_cell BK162.out 4).trans rfl
    have hcz22_5 : wc.cell? ⟨gb162, 5, none⟩ = some (.int .i64 a0_5) := (blk_cell BK162.out 5).trans rfl
    have hcz22_6 : wc.cell? ⟨gb162, 6, none⟩ = some (.string a0_6) := (blk_cell BK162.out 6).trans rfl
    have hcz22_7 : wc.cell? ⟨gb162, 7, none⟩ = some (.int .i64 a0_7) := (blk_cell BK162.out 7).trans rfl
    have hcz22_8 : wc.cell? ⟨gb162, 8, none⟩ = some (.int .i64 a0_8) := (blk_cell BK162.out 8).trans rfl
    have hfz22_0 := blk_frozen BK162.out 0
    have hfz22_1 := blk_frozen BK162.out 1
    have hfz22_2 := blk_frozen BK162.out 2
    have hfz22_3 := blk_frozen BK162.out 3
    have hfz22_4 := blk_frozen BK162.out 4
    have hfz22_5 := blk_frozen BK162.out 5
    have hfz22_6 := blk_frozen BK162.out 6
    have hfz22_7 := blk_frozen BK162.out 7
    have hfz22_8 := blk_frozen BK162.out 8
    go_wp2
    go_ret
    exact ⟨by first | rfl | (simp [errW_none, errW_some] <;> rfl) | (simp [*, errW_none, errW_some] <;> rfl), by repeat (first | (with_reducible first | exact HB.out | apply qbA | apply qbB | apply qbC | refine below_set ?_ GE162.out) | exact HB.out)⟩
   rw [if_neg c21] at H
   have c21b0 : decide (300 < a0_7) = false := decide_eq_false c21
   clear c21
   by_cases c23 : a0_8 < 0
   ·rw [if_pos c23] at H
    have c23b0 : decide (a0_8 < 0) = true := decide_eq_true c23
    clear c23
    obtain rfl := Option.some.inj H
    have hcz24_0 : wc.cell? ⟨gb162, 0, none⟩ = some (.string a0_0) := (blk_cell BK162.out 0).trans rfl
    have hcz24_1 : wc.cell? ⟨gb162, 1, none⟩ = some (.bool false) := (blk_cell BK162.out 1).trans rfl
    have hcz24_2 : wc.cell? ⟨gb162, 2, none⟩ = some (.slice A0_2 l0_2.length c0_2) := (blk_cell BK162.out 2).trans rfl
    have hcz24_3 : wc.cell? ⟨gb162, 3, none⟩ = some (.int .i64 a0_3) := (blk_cell BK162.out 3).trans rfl
    have hcz24_4 : wc.cell? ⟨gb162, 4, none⟩ = some (.int .i64 a0_4) := (blk_cell BK162.out 4).trans rfl
    have hcz24_5 : wc.cell? ⟨gb162, 5, none⟩ = some (.int .i64 a0_5) := (blk_cell BK162.out 5).trans rfl
    have hcz24_6 : wc.cell? ⟨gb162, 6, none⟩ = some (.string a0_6) := (blk_cell BK162.out 6).trans rfl
    have hcz24_7 : wc.cell? ⟨gb162, 7, none⟩ = some (.int .i64 a0_7) := (blk_cell BK162.out 7).trans rfl
    have hcz24_8 : wc.cell? ⟨gb162, 8, none⟩ = some (.int .i64 a0_8) := (blk_cell BK162.out 8).trans rfl
    have hfz24_0 := blk_frozen BK162.out 0
    have hfz24_1 := blk_frozen BK162.out 1
    have hfz24_2 := blk_frozen BK162.out 2
    have hfz24_3 := blk_frozen BK162.out 3
    have hfz24_4 := blk_frozen BK162.out 4
    have hfz24_5 := blk_frozen BK162.out 5
    have hfz24_6 := blk_frozen BK162.out 6
    have hfz24_7 := blk_frozen BK162.out 7
    have hfz24_8 := blk_frozen BK162.out 8
    go_wp2
    go_ret
    exact ⟨by first | rfl | (simp [errW_none, errW_some] <;> rfl) | (simp [*, errW_none, errW_some] <;> rfl), by repeat (first | (with_reducible first | exact HB.out | apply qbA | apply qbB | apply qbC | refine below_set ?_ GE162.out) | exact HB.out)⟩
   rw [if_neg c23] at H
   have c23b0 : decide (a0_8 < 0) = false := decide_eq_false c23
   clear c23
   by_cases c25 : a0_8 > 4294967295
   ·rw [if_pos c25] at H
    have c25b0 : decide (4294967295 < a0_8) = true := decide_eq_true c25
    clear c25
    obtain rfl := Option.some.inj H
    have hcz26_0 : wc.cell? ⟨gb162, 0, none⟩ = some (.string a0_0) := (blk_cell BK162.out 0).trans rfl
    have hcz26_1 : wc.cell? ⟨gb162, 1, none⟩ = some (.bool false) := (blk_cell BK162.out 1).trans rfl
    have hcz26_2 : wc.cell? ⟨gb162, 2, none⟩ = some (.slice A0_2 l0_2.length c0_2) := (blk_cell BK162.out 2).trans rfl
    have hcz26_3 : wc.cell? ⟨gb162, 3, none⟩ = some (.int .i64 a0_3) := (blk_cell BK162.out 3).trans rfl
    have hcz26_4 : wc.cell? ⟨gb162, 4, none⟩ = some (.int .i64 a0_4) := (blk_cell BK162.out 4).trans rfl
    have hcz26_5 : wc.cell? ⟨gb162, 5, none⟩ = some (.int .i64 a0_5) := (blk_cell BK162.out 5).trans rfl
    have hcz26_6 : wc.cell? ⟨gb162, 6, none⟩ = some (.string a0_6) := (blk_cell BK162.out 6).trans rfl
    have hcz26_7 : wc.cell? ⟨gb162, 7, none⟩ = some (.int .i64 a0_7) := (blk_cell BK162.out 7).trans rfl
    have hcz26_8 : wc.cell? ⟨gb162, 8, none⟩ = some (.int .i64 a0_8) := (blk_cell BK162.out 8).trans rfl
    have hfz26_0 := blk_frozen BK162.out 0
    have hfz26_1 := blk_frozen BK162.out 1
    have hfz26_2 := blk_frozen BK162.out 2
    have hfz26_3 := blk_frozen BK162.out 3
    have hfz26_4 := blk_frozen BK162.out 4
    have hfz26_5 := blk_frozen BK162.out 5
    have hfz26_6 := blk_frozen BK162.out 6
    have hfz26_7 := blk_frozen BK162.out 7
    have hfz26_8 := blk_frozen BK162.out 8
    go_wp2
    go_ret
    exact ⟨by first | rfl | (simp [errW_none, errW_some] <;> rfl) | (simp [*, errW_none, errW_some] <;> rfl), by repeat (first | (with_reducible first | exact HB.out | apply qbA | apply qbB | apply qbC | refine below_set ?_ GE162.out) | exact HB.out)⟩
   rw [if_neg c25] at H
   have c25b0 : decide (4294967295 < a0_8) = false := decide_eq_false c25
   clear c25
   by_cases c27 : a0_5 = 0
   rotate_left
   ·rw [if_neg c27] at H
    have c27b0 : (a0_5 == 0) = false := beq_eq_false_iff_ne.mpr c27
    have c27b1 : (a0_5 != 0) = true := bne_iff_ne.mpr c27
    by_cases c33 : a0_5 = 8
    rotate_left
    ·rw [if_neg c33] at H
     have c33b0 : (a0_5 == 8) = false := beq_eq_false_iff_ne.mpr c33
     have c33b1 : (a0_5 != 8) = true := bne_iff_ne.mpr c33
     obtain rfl := Option.some.inj H
     have hcz35_0 : wc.cell? ⟨gb162, 0, none⟩ = some (.string a0_0) := (blk_cell BK162.out 0).trans rfl
     have hcz35_1 : wc.cell? ⟨gb162, 1, none⟩ = some (.bool false) := (blk_cell BK162.out 1).trans rfl
     have hcz35_2 : wc.cell? ⟨gb162, 2, none⟩ = some (.slice A0_2 l0_2.length c0_2) := (blk_cell BK162.out 2).trans rfl
     have hcz35_3 : wc.cell? ⟨gb162, 3, none⟩ = some (.int .i64 a0_3) := (blk_cell BK162.out 3).trans rfl
     have hcz35_4 : wc.cell? ⟨gb162, 4, none⟩ = some (.int .i64 a0_4) := (blk_cell BK162.out 4).trans rfl
     have hcz35_5 : wc.cell? ⟨gb162, 5, none⟩ = some (.int .i64 a0_5) := (blk_cell BK162.out 5).trans rfl
     have hcz35_6 : wc.cell? ⟨gb162, 6, none⟩ = some (.string a0_6) := (blk_cell BK162.out 6).trans rfl
     have hcz35_7 : wc.cell? ⟨gb162, 7, none⟩ = some (.int .i64 a0_7) := (blk_cell BK162.out 7).trans rfl
     have hcz35_8 : wc.cell? ⟨gb162, 8, none⟩ = some (.int .i64 a0_8) := (blk_cell BK162.out 8).trans rfl
     have hfz35_0 := blk_frozen BK162.out 0
     have hfz35_1 := blk_frozen BK162.out 1
     have hfz35_2 := blk_frozen BK162.out 2
     have hfz35_3 := blk_frozen BK162.out 3
     have hfz35_4 := blk_frozen BK162.out 4
     have hfz35_5 := blk_frozen BK162.out 5
     have hfz35_6 := blk_frozen BK162.out 6
     have hfz35_7 := blk_frozen BK162.out 7
     have hfz35_8 := blk_frozen BK162.out 8
     go_wp2
     go_ret
     exact ⟨by first | rfl | (simp [errW_none, errW_some] <;> rfl) | (simp [*, errW_none, errW_some] <;> rfl), by repeat (first | (with_reducible first | exact HB.out | apply qbA | apply qbB | apply qbC | refine below_set ?_ GE162.out) | exact HB.out)⟩
    rw [if_pos c33] at H
    have c33b0 : (a0_5 == 8) = true := beq_iff_eq.mpr c33
    have c33b1 : (a0_5 != 8) = false := bne_eq_false_iff_eq.mpr c33
    clear c33
    obtain rfl := Option.some.inj H
    have hcz34_0 : wc.cell? ⟨gb162, 0, none⟩ = some (.string a0_0) := (blk_cell BK162.out 0).trans rfl
    have hcz34_1 : wc.cell? ⟨gb162, 1, none⟩ = some (.bool false) := (blk_cell BK162.out 1).trans rfl
    have hcz34_2 : wc.cell? ⟨gb162, 2, none⟩ = some (.slice A0_2 l0_2.length c0_2) := (blk_cell BK162.out 2).trans rfl
    have hcz34_3 : wc.cell? ⟨gb162, 3, none⟩ = some (.int .i64 a0_3) := (blk_cell BK162.out 3).trans rfl
    have hcz34_4 : wc.cell? ⟨gb162, 4, none⟩ = some (.int .i64 a0_4) := (blk_cell BK162.out 4).trans rfl
    have hcz34_5 : wc.cell? ⟨gb162, 5, none⟩ = some (.int .i64 a0_5) := (blk_cell BK162.out 5).trans rfl
    have hcz34_6 : wc.cell? ⟨gb162, 6, none⟩ = some (.string a0_6) := (blk_cell BK162.out 6).trans rfl
    have hcz34_7 : wc.cell? ⟨gb162, 7, none⟩ = some (.int .i64 a0_7) := (blk_cell BK162.out 7).trans rfl
    have hcz34_8 : wc.cell? ⟨gb162, 8, none⟩ = some (.int .i64 a0_8) := (blk_cell BK162.out 8).trans rfl
    have hfz34_0 := blk_frozen BK162.out 0
    have hfz34_1 := blk_frozen BK162.out 1
    have hfz34_2 := blk_frozen BK162.out 2
    have hfz34_3 := blk_frozen BK162.out 3
    have hfz34_4 := blk_frozen BK162.out 4
    have hfz34_5 := blk_frozen BK162.out 5
    have hfz34_6 := blk_frozen BK162.out 6
    have hfz34_7 := blk_frozen BK162.out 7
    have hfz34_8 := blk_frozen BK162.out 8
    go_wp2
    go_ret
    exact ⟨by first | rfl | (simp [errW_none, errW_some] <;> rfl) | (simp [*, errW_none, errW_some] <;> rfl), by repeat (first | (with_reducible first | exact HB.out | apply qbA | apply qbB | apply qbC | refine below_set ?_ GE162.out) | exact HB.out)⟩
   rw [if_pos c27] at H
   have c27b0 : (a0_5 == 0) = true := beq_iff_eq.mpr c27
   have c27b1 : (a0_5 != 0) = false := bne_eq_false_iff_eq.mpr c27
   clear c27
   by_cases c28 : (a0_6.size : Int) = a0_7
   ·rw [if_pos c28] at H
    have c28b0 : ((a0_6.size : Int) == a0_7) = true := beq_iff_eq.mpr c28
    have c28b1 : ((a0_6.size : Int) != a0_7) = false := bne_eq_false_iff_eq.mpr c28
    clear c28
    obtain rfl := Option.some.inj H
    have hcz29_0 : wc.cell? ⟨gb162, 0, none⟩ = some (.string a0_0) := (blk_cell BK162.out 0).trans rfl
    have hcz29_1 : wc.cell? ⟨gb162, 1, none⟩ = some (.bool false) := (blk_cell BK162.out 1).trans rfl
    have hcz29_2 : wc.cell? ⟨gb162, 2, none⟩ = some (.slice A0_2 l0_2.length c0_2) := (blk_cell BK162.out 2).trans rfl
    have hcz29_3 : wc.cell? ⟨gb162, 3, none⟩ = some (.int .i64 a0_3) := (blk_cell BK162.out 3).trans rfl
    have hcz29_4 : wc.cell? ⟨gb162, 4, none⟩ = some (.int .i64 a0_4) := (blk_cell BK162.out 4).trans rfl
    have hcz29_5 : wc.cell? ⟨gb162, 5, none⟩ = some (.int .i64 a0_5) := (blk_cell BK162.out 5).trans rfl
    have hcz29_6 : wc.cell? ⟨gb162, 6, none⟩ = some (.string a0_6) := (blk_cell BK162.out 6).trans rfl
    have hcz29_7 : wc.cell? ⟨gb162, 7, none⟩ = some (.int .i64 a0_7) := (blk_cell BK162.out 7).trans rfl
    have hcz29_8 : wc.cell? ⟨gb162, 8, none⟩ = some (.int .i64 a0_8) := (blk_cell BK162.out 8).trans rfl
    have hfz29_0 := blk_frozen BK162.out 0
    have hfz29_1 := blk_frozen BK162.out 1
    have hfz29_2 := blk_frozen BK162.out 2
    have hfz29_3 := blk_frozen BK162.out 3
    have hfz29_4 := blk_frozen BK162.out 4
    have hfz29_5 := blk_frozen BK162.out 5
    have hfz29_6 := blk_frozen BK162.out 6
    have hfz29_7 := blk_frozen BK162.out 7
    have hfz29_8 := blk_frozen BK162.out 8
    go_wp2
    go_ret
    exact ⟨by first | rfl | (simp [errW_none, errW_some] <;> rfl) | (simp [*, errW_none, errW_some] <;> rfl), by repeat (first | (with_reducible first | exact HB.out | apply qbA | apply qbB | apply qbC | refine below_set ?_ GE162.out) | exact HB.out)⟩
   rw [if_neg c28] at H
   have c28b0 : ((a0_6.size : Int) == a0_7) = false := beq_eq_false_iff_ne.mpr c28
   have c28b1 : ((a0_6.size : Int) != a0_7) = true := bne_iff_ne.mpr c28
   by_cases c30 : a0_5 = 8
   rotate_left
   ·rw [if_neg c30] at H
    have c30b0 : (a0_5 == 8) = false := beq_eq_false_iff_ne.mpr c30
    have c30b1 : (a0_5 != 8) = true := bne_iff_ne.mpr c30
    obtain rfl := Option.some.inj H
    have hcz32_0 : wc.cell? ⟨gb162, 0, none⟩ = some (.string a0_0) := (blk_cell BK162.out 0).trans rfl
    have hcz32_1 : wc.cell? ⟨gb162, 1, none⟩ = some (.bool false) := (blk_cell BK162.out 1).trans rfl
    have hcz32_2 : wc.cell? ⟨gb162, 2, none⟩ = some (.slice A0_2 l0_2.length c0_2) := (blk_cell BK162.out 2).trans rfl
    have hcz32_3 : wc.cell? ⟨gb162, 3, none⟩ = some (.int .i64 a0_3) := (blk_cell BK162.out 3).trans rfl
    have hcz32_4 : wc.cell? ⟨gb162, 4, none⟩ = some (.int .i64 a0_4) := (blk_cell BK162.out 4).trans rfl
    have hcz32_5 : wc.cell? ⟨gb162, 5, none⟩ = some (.int .i64 a0_5) := (blk_cell BK162.out 5).trans rfl
    have hcz32_6 : wc.cell? ⟨gb162, 6, none⟩ = some (.string a0_6) := (blk_cell BK162.out 6).trans rfl
    have hcz32_7 : wc.cell? ⟨gb162, 7, none⟩ = some (.int .i64 a0_7) := (blk_cell BK162.out 7).trans rfl
    have hcz32_8 : wc.cell? ⟨gb162, 8, none⟩ = some (.int .i64 a0_8) := (blk_cell BK162.out 8).trans rfl
    have hfz32_0 := blk_frozen BK162.out 0
    have hfz32_1 := blk_frozen BK162.out 1
    have hfz32_2 := blk_frozen BK162.out 2
    have hfz32_3 := blk_frozen BK162.out 3
    have hfz32_4 := blk_frozen BK162.out 4
    have hfz32_5 := blk_frozen BK162.out 5
    have hfz32_6 := blk_frozen BK162.out 6
    have hfz32_7 := blk_frozen BK162.out 7
    have hfz32_8 := blk_frozen BK162.out 8
    go_wp2
    go_ret
    exact ⟨by first | rfl | (simp [errW_none, errW_some] <;> rfl) | (simp [*, errW_none, errW_some] <;> rfl), by repeat (first | (with_reducible first | exact HB.out | apply qbA | apply qbB | apply qbC | refine below_set ?_ GE162.out) | exact HB.out)⟩
   rw [if_pos c30] at H
   have c30b0 : (a0_5 == 8) = true := beq_iff_eq.mpr c30
   have c30b1 : (a0_5 != 8) = false := bne_eq_false_iff_eq.mpr c30
   clear c30
   obtain rfl := Option.some.inj H
   have hcz31_0 : wc.cell? ⟨gb162, 0, none⟩ = some (.string a0_0) := (blk_cell BK162.out 0).trans rfl
   have hcz31_1 : wc.cell? ⟨gb162, 1, none⟩ = some (.bool false) := (blk_cell BK162.out 1).trans rfl
   have hcz31_2 : wc.cell? ⟨gb162, 2, none⟩ = some (.slice A0_2 l0_2.length c0_2) := (blk_cell BK162.out 2).trans rfl
   have hcz31_3 : wc.cell? ⟨gb162, 3, none⟩ = some (.int .i64 a0_3) := (blk_cell BK162.out 3).trans rfl
   have hcz31_4 : wc.cell? ⟨gb162, 4, none⟩ = some (.int .i64 a0_4) := (blk_cell BK162.out 4).trans rfl
   have hcz31_5 : wc.cell? ⟨gb162, 5, none⟩ = some (.int .i64 a0_5) := (blk_cell BK162.out 5).trans rfl
   have hcz31_6 : wc.cell? ⟨gb162, 6, none⟩ = some (.string a0_6) := (blk_cell BK162.out 6).trans rfl
   have hcz31_7 : wc.cell? ⟨gb162, 7, none⟩ = some (.int .i64 a0_7) := (blk_cell BK162.out 7).trans rfl
   have hcz31_8 : wc.cell? ⟨gb162, 8, none⟩ = some (.int .i64 a0_8) := (blk_cell BK162.out 8).trans rfl
   have hfz31_0 := blk_frozen BK162.out 0
   have hfz31_1 := blk_frozen BK162.out 1
   have hfz31_2 := blk_frozen BK162.out 2
   have hfz31_3 := blk_frozen BK162.out 3
   have hfz31_4 := blk_frozen BK162.out 4
   have hfz31_5 := blk_frozen BK162.out 5
   have hfz31_6 := blk_frozen BK162.out 6
   have hfz31_7 := blk_frozen BK162.out 7
   have hfz31_8 := blk_frozen BK162.out 8
   go_wp2
   go_ret
   exact ⟨by first | rfl | (simp [errW_none, errW_some] <;> rfl) | (simp [*, errW_none, errW_some] <;> rfl), by repeat (first | (with_reducible first | exact HB.out | apply qbA | apply qbB | apply qbC | refine below_set ?_ GE162.out) | exact HB.out)⟩

attribute [local go_sem] max2_int min2_int max_two min_two max_three min_three max_four min_four   -- for this text's walks alone
set_option linter.unusedVariables false
set_option linter.unusedSimpArgs false

/-! ### pr_WriteMay: function 23 -/
def pr_WriteMay.l0 : Nat → Int → List (S39) → Option (Bool)
 | 0, _, _ => none
 | k + 1, x3, x166000 => if x3 < (x166000.length : Int) then (if 0 ≤ x3 then ((pr_heldMay.f k ((rd_T39 x166000 x3).f0) ((rd_T39 x166000 x3).f1) ((rd_T39 x166000 x3).f2) ((rd_T39 x166000 x3).f3) ((rd_T39 x166000 x3).f4) ((rd_T39 x166000 x3).f5) ((rd_T39 x166000 x3).f6) ((rd_T39 x166000 x3).f7) ((rd_T39 x166000 x3).f8)).bind fun t167 => (if t167 = true then (if x3 > 0 then (if 0 ≤ (wrap64 (x3 - 1)) then (if (wrap64 (x3 - 1)) < (x166000.length : Int) then (if ((Op.bytesLess (((rd_T39 x166000 (wrap64 (x3 - 1))).f0).toList) (((rd_T39 x166000 x3).f0).toList)) = true) then (pr_WriteMay.l0 k (wrap64 (x3 + 1)) x166000) else (some false)) else (none)) else (none)) else (pr_WriteMay.l0 k (wrap64 (x3 + 1)) x166000)) else (some false))) else (none)) else (some true)
def pr_WriteMay.f (k : Nat) (l0_0 : List (S39)) : Option (Bool) := if (l0_0.length : Int) > 6 then (some false) else (pr_WriteMay.l0 k 0 l0_0)
theorem pr_WriteMay.mono_l : ∀ k, (∀ y0 y1, LeO (pr_WriteMay.l0 k y0 y1) (pr_WriteMay.l0 (k + 1) y0 y1))
 | 0 => fun _ _ r h => by simp [pr_WriteMay.l0] at h
 | k + 1 => by
  have ih0 := pr_WriteMay.mono_l k
  ·intro y0 y1
   unfold pr_WriteMay.l0
   repeat' first
   | (with_reducible exact ih0 _ _)
   | (with_reducible exact pr_heldMay.mono _ _ _ _ _ _ _ _ _ _)
   | (with_reducible exact LeO.refl _)
   | (with_reducible exact LeO.none _)
   | (with_reducible refine LeO.ite ?_ ?_)
   | (with_reducible refine LeO.bind ?_ (fun _ => ?_))
   | exact ih0 _ _
   | exact pr_heldMay.mono _ _ _ _ _ _ _ _ _ _
   | exact LeO.none _
   | refine LeO.ite ?_ ?_
   | refine LeO.bind ?_ (fun _ => ?_)
theorem pr_WriteMay.mono : ∀ a0 k, LeO (pr_WriteMay.f k a0) (pr_WriteMay.f (k + 1) a0) := by
 intro a0 k
 have ih0 := pr_WriteMay.mono_l k
 unfold pr_WriteMay.f
 repeat' first
   | (with_reducible exact ih0 _ _)
   | (with_reducible exact pr_heldMay.mono _ _ _ _ _ _ _ _ _ _)
   | (with_reducible exact LeO.refl _)
   | (with_reducible exact LeO.none _)
   | (with_reducible refine LeO.ite ?_ ?_)
   | (with_reducible refine LeO.bind ?_ (fun _ => ?_))
   | exact ih0 _ _
   | exact pr_heldMay.mono _ _ _ _ _ _ _ _ _ _
   | exact LeO.none _
   | refine LeO.ite ?_ ?_
   | refine LeO.bind ?_ (fun _ => ?_)
def pr_WriteMay.T6 : Bool × List (List Nat × List Nat) := (true, [([], []), ([0], [0]), ([], []), ([1, 2], [1, 2]), ([3], [3]), ([4], [4]), ([5], [5]), ([6, 5], [6]), ([7], [7]), ([8, 7], [7, 8]), ([9, 7, 7], [7, 9]), ([10], [10]), ([11, 10], [10, 11]), ([10], [10]), ([12, 13, 10], [10, 12, 13]), ([14, 10], [10, 14]), ([15, 10], [10, 15]), ([10], [10]), ([17, 10], [10, 17]), ([10], [10]), ([19, 10], [10, 19]), ([18, 20, 10], [10, 18, 20]), ([21, 10], [10, 21]), ([22, 10], [10, 22]), ([16, 23, 10], [10, 16, 23]), ([10, 24, 7], [7, 10, 24]), ([7, 25], [7, 25])])
def pr_WriteMay.B6 : List Nat := [0, 1, 0, 7, 15, 31, 63, 127, 255, 511, 1023, 2047, 4095, 2047, 16383, 32767, 65535, 2047, 133119, 2047, 526335, 1968127, 4065279, 8259583, 16777215, 33554431, 67108863]
theorem pr_WriteMay.tab6 : rtab .any (opsOf Tryd.f23 6) = pr_WriteMay.T6 := by kernel_rfl
theorem pr_WriteMay.bits6 : waitsOk pr_WriteMay.T6.2 pr_WriteMay.B6 = true := by kernel_rfl
set_option maxHeartbeats 8000000 in
set_option maxRecDepth 100000 in
theorem pr_WriteMay.calls (k : Nat) (A0_0 : Option Addr) (c0_0 : Nat) (l0_0 : List (S39)) (r : Bool) (w : World) (hr0_0 : Kd.C k39 w A0_0 l0_0.length l0_0) (hc0_0 : l0_0.length ≤ c0_0) (h : pr_WriteMay.f k l0_0 = some r) :
  Calls Tryd.prog 23 #[.agg #[.slice A0_0 l0_0.length c0_0]] w fun e w' => e = .returned (.bool r) ∧ Below w.heap.size w w' := by
 have hu24 := Tryd.underlying24
 have hu39 := Tryd.underlying39
 have HR0_0 := qas hr0_0
 have HC0_0 := qas hc0_0
 clear hr0_0 hc0_0
 have HB := qas (Below.refl w.heap.size w)
 have H : (if (l0_0.length : Int) > 6 then (some false) else (pr_WriteMay.l0 k 0 l0_0)) = some r := h
 clear h
 by_cases c2 : (l0_0.length : Int) > 6
 ·rw [if_pos c2] at H
  have c2b0 : decide (6 < (l0_0.length : Int)) = true := decide_eq_true c2
  have c2b1 : decide (6 < l0_0.length) = true := decide_eq_true (by omega)
  clear c2
  obtain rfl := Option.some.inj H
  go_enter Tryd.func23, Tryd.ntmps23
  go_wp2_with (first | ((with_reducible refine gate_dst (N := 1) rfl ?_); refine box_event ?hg (N := 1) ?hd (cs := #[.slice A0_0 l0_0.length c0_0]) (t := 24) ?hr ?_; (case hd => rfl); (case hg => rfl); (case hr => first | (go_simp; done) | (go_simp; rfl)); intro gb165 hg w3 hbox hb; have n0_ := qas (below_step (by repeat (first | (with_reducible first | exact HB.out | apply qbA | apply qbB | apply qbC) | exact HB.out)) hb); have n1_ := qas (hbox); have n2_ := qas ((by rw [hg]; exact (below_size (by repeat (first | (with_reducible first | exact HB.out | apply qbA | apply qbB | apply qbC) | exact HB.out))) : w.heap.size ≤ gb165)); have n3_ := qas ((by rw [hg]; exact (below_size (by repeat (first | (with_reducible first | exact HB.out | apply qbA | apply qbB | apply qbC) | exact HB.out))) : w.heap.size ≤ gb165)); clear HB; have HB := n0_; have BK165 := n1_; have GW165 := n2_; have GE165 := n3_; clear n0_ n1_ n2_ n3_; clear hb hbox hg; have hcz4_0 : w3.cell? ⟨gb165, 0, none⟩ = some (.slice A0_0 l0_0.length c0_0) := (blk_cell BK165.out 0).trans rfl; have hfz4_0 := blk_frozen BK165.out 0))
  go_ret
  exact ⟨by first | rfl | (simp [errW_none, errW_some] <;> rfl) | (simp [*, errW_none, errW_some] <;> rfl), by repeat (first | (with_reducible first | exact HB.out | apply qbA | apply qbB | apply qbC | refine below_set ?_ GE165.out) | exact HB.out)⟩
 rw [if_neg c2] at H
 have c2b0 : decide (6 < (l0_0.length : Int)) = false := decide_eq_false c2
 have c2b1 : decide (6 < l0_0.length) = false := decide_eq_false (by omega)
 clear c2
 have H' := qas H
 clear H
 go_enter Tryd.func23, Tryd.ntmps23
 go_wp2_with (first | ((with_reducible refine gate_dst (N := 1) rfl ?_); refine box_event ?hg (N := 1) ?hd (cs := #[.slice A0_0 l0_0.length c0_0]) (t := 24) ?hr ?_; (case hd => rfl); (case hg => rfl); (case hr => first | (go_simp; done) | (go_simp; rfl)); intro gb165 hg w5 hbox hb; have n0_ := qas (below_step (by repeat (first | (with_reducible first | exact HB.out | apply qbA | apply qbB | apply qbC) | exact HB.out)) hb); have n1_ := qas (hbox); have n2_ := qas ((by rw [hg]; exact (below_size (by repeat (first | (with_reducible first | exact HB.out | apply qbA | apply qbB | apply qbC) | exact HB.out))) : w.heap.size ≤ gb165)); have n3_ := qas ((by rw [hg]; exact (below_size (by repeat (first | (with_reducible first | exact HB.out | apply qbA | apply qbB | apply qbC) | exact HB.out))) : w.heap.size ≤ gb165)); clear HB; have HB := n0_; have BK165 := n1_; have GW165 := n2_; have GE165 := n3_; clear n0_ n1_ n2_ n3_; clear hb hbox hg; have hcz6_0 : w5.cell? ⟨gb165, 0, none⟩ = some (.slice A0_0 l0_0.length c0_0) := (blk_cell BK165.out 0).trans rfl; have hfz6_0 := blk_frozen BK165.out 0))
 go_loopg [3] k (fun kq v3 w' => ∃ (x3_1 : Int), v3 = .int .i64 x3_1 ∧ Aside0 (pr_WriteMay.l0 kq x3_1 l0_0 = some r) ∧ Aside0 (kq ≤ k) ∧ Aside0 (w'.heap[gb165]? = some (.cells #[(.slice A0_0 l0_0.length c0_0)] 24 (0, 0))) ∧ Aside0 (Below w.heap.size w w'))
 case atStart => exact ⟨(0), (by first | rfl | (simp; done) | (simp [*]; done)), H', ⟨Nat.le_refl _⟩, ⟨by (with_reducible repeat (first | refine qkA ?_ _ | refine qkB ?_ | refine qkC ?_ _)); exact BK165.out⟩, ⟨by repeat (first | (with_reducible first | exact HB.out | apply qbA | apply qbB | apply qbC | refine below_set ?_ GE165.out) | exact HB.out)⟩⟩
 case round =>
  clear H'
  try clear c2
  try clear c2b0
  try clear c2b1
  try clear p2
  try clear hcz4_0
  try clear hcz6_0
  try clear hfz4_0
  try clear hfz6_0
  obtain ⟨x3_1, rfl, HA, HK1, BK165, HB⟩ := hrel
  cases gk with
  | zero => exact absurd HA.out (by simp [pr_WriteMay.l0])
  | succ k1 =>
   have H := HA.out
   clear HA
   simp only [pr_WriteMay.l0] at H
   by_cases c7 : x3_1 < (l0_0.length : Int)
   rotate_left
   ·rw [if_neg c7] at H
    have c7b0 : decide (x3_1 < (l0_0.length : Int)) = false := decide_eq_false c7
    clear c7
    obtain rfl := Option.some.inj H
    have hcz28_0 : wr.cell? ⟨gb165, 0, none⟩ = some (.slice A0_0 l0_0.length c0_0) := (blk_cell BK165.out 0).trans rfl
    have hfz28_0 := blk_frozen BK165.out 0
    go_wp2
    go_ret
    exact ⟨by first | rfl | (simp [errW_none, errW_some] <;> rfl) | (simp [*, errW_none, errW_some] <;> rfl), by repeat (first | (with_reducible first | exact HB.out | apply qbA | apply qbB | apply qbC | refine below_set ?_ GE165.out) | exact HB.out)⟩
   rw [if_pos c7] at H
   have c7b0 : decide (x3_1 < (l0_0.length : Int)) = true := decide_eq_true c7
   clear c7
   by_cases c8 : 0 ≤ x3_1
   rotate_left
   ·rw [if_neg c8] at H
    exact absurd H (by simp)
   rw [if_pos c8] at H
   have c8b0 : decide (0 ≤ x3_1) = true := decide_eq_true c8
   clear c8
   replace H := Option.bind_eq_some_iff.mp H
   obtain ⟨t167, A90, H⟩ := H
   replace H : (if t167 = true then (if x3_1 > 0 then (if 0 ≤ (wrap64 (x3_1 - 1)) then (if (wrap64 (x3_1 - 1)) < (l0_0.length : Int) then (if ((Op.bytesLess (((rd_T39 l0_0 (wrap64 (x3_1 - 1))).f0).toList) (((rd_T39 l0_0 x3_1).f0).toList)) = true) then (pr_WriteMay.l0 k1 (wrap64 (x3_1 + 1)) l0_0) else (some false)) else (none)) else (none)) else (pr_WriteMay.l0 k1 (wrap64 (x3_1 + 1)) l0_0)) else (some false)) = some r := H
   have A9 := qas A90
   clear A90
   by_cases c10 : t167 = true
   rotate_left
   ·replace c10 := Bool.eq_false_iff.mpr c10
    subst c10
    have H1 : (some false) = some r := by rw [if_neg (show ¬ (false = true) by decide)] at H; exact H
    clear H
    have H := H1
    clear H1
    obtain rfl := Option.some.inj H
    have hcz25_0 : wr.cell? ⟨gb165, 0, none⟩ = some (.slice A0_0 l0_0.length c0_0) := (blk_cell BK165.out 0).trans rfl
    have hfz25_0 := blk_frozen BK165.out 0
    try go_wp2
    have n0_ := qas (qkB BK165.out)
    have n1_ := qas (qbC HB.out)
    clear BK165
    clear HB
    have BK165 := n0_
    have HB := n1_
    clear n0_ n1_
    have p166 : 0 ≤ (x3_1 : Int) := qde (by first | (with_reducible assumption) | assumption)
    have q166 : x3_1 < (l0_0.length : Int) := qde (by first | (with_reducible assumption) | assumption)
    obtain ⟨ad166, A166_2, c166_2, e166, hx166_0, hx166_1, hx166_2, hx166_3, hx166_4, hx166_5, hx166_6, hx166_7, hx166_8, hl166_2, hi166_2⟩ := at_T39 HR0_0.out x3_1 p166 q166
    have hw166_8 := hx166_8
    have hw166_7 := hx166_7
    have hw166_6 := hx166_6
    have hw166_5 := hx166_5
    have hw166_4 := hx166_4
    have hw166_3 := hx166_3
    have hw166_2 := hx166_2
    have hw166_1 := hx166_1
    have hw166_0 := hx166_0
    cases e166
    replace hx166_0 := (HB.out.cell (qbl w _ hx166_0)).trans hx166_0
    replace hx166_1 := (HB.out.cell (qbl w _ hx166_1)).trans hx166_1
    replace hx166_2 := (HB.out.cell (qbl w _ hx166_2)).trans hx166_2
    replace hx166_3 := (HB.out.cell (qbl w _ hx166_3)).trans hx166_3
    replace hx166_4 := (HB.out.cell (qbl w _ hx166_4)).trans hx166_4
    replace hx166_5 := (HB.out.cell (qbl w _ hx166_5)).trans hx166_5
    replace hx166_6 := (HB.out.cell (qbl w _ hx166_6)).trans hx166_6
    replace hx166_7 := (HB.out.cell (qbl w _ hx166_7)).trans hx166_7
    replace hx166_8 := (HB.out.cell (qbl w _ hx166_8)).trans hx166_8
    have HR166_2 := qas hi166_2
    have HC166_2 := qas hl166_2
    clear hi166_2 hl166_2
    replace p166 := eq_true p166
    replace q166 := eq_true q166
    refine start_ (n := 27) (S := fun w' => w'.cell? ⟨gb165, 0, none⟩ = some (.slice (some ad166) l0_0.length c0_0) ∧ w'.cell? (ad166.add ((x3_1).toNat * 9)) = some (.string ((rd_T39 l0_0 x3_1).f0)) ∧ w'.cell? ⟨(ad166.add ((x3_1).toNat * 9)).block, (ad166.add ((x3_1).toNat * 9)).off + 1, none⟩ = some (.bool ((rd_T39 l0_0 x3_1).f1)) ∧ w'.cell? ⟨(ad166.add ((x3_1).toNat * 9)).block, (ad166.add ((x3_1).toNat * 9)).off + 2, none⟩ = some (.slice A166_2 ((rd_T39 l0_0 x3_1).f2).length c166_2) ∧ w'.cell? ⟨(ad166.add ((x3_1).toNat * 9)).block, (ad166.add ((x3_1).toNat * 9)).off + 3, none⟩ = some (.int .i64 ((rd_T39 l0_0 x3_1).f3)) ∧ w'.cell? ⟨(ad166.add ((x3_1).toNat * 9)).block, (ad166.add ((x3_1).toNat * 9)).off + 4, none⟩ = some (.int .i64 ((rd_T39 l0_0 x3_1).f4)) ∧ w'.cell? ⟨(ad166.add ((x3_1).toNat * 9)).block, (ad166.add ((x3_1).toNat * 9)).off + 5, none⟩ = some (.int .i64 ((rd_T39 l0_0 x3_1).f5)) ∧ w'.cell? ⟨(ad166.add ((x3_1).toNat * 9)).block, (ad166.add ((x3_1).toNat * 9)).off + 6, none⟩ = some (.string ((rd_T39 l0_0 x3_1).f6)) ∧ w'.cell? ⟨(ad166.add ((x3_1).toNat * 9)).block, (ad166.add ((x3_1).toNat * 9)).off + 7, none⟩ = some (.int .i64 ((rd_T39 l0_0 x3_1).f7)) ∧ w'.cell? ⟨(ad166.add ((x3_1).toNat * 9)).block, (ad166.add ((x3_1).toNat * 9)).off + 8, none⟩ = some (.int .i64 ((rd_T39 l0_0 x3_1).f8))) (ds := []) #[qf, qf, qf, qf, qf, qf, qf, qf, qf, qf, qf, qf, qf, qf, qf, qf, qf, qf, qf, qf, qf, qf, qf, qf, qf, qf, qf] (by kernel_rfl) rfl rfl ⟨(blk_cell BK165.out 0).trans rfl, ((HB.out.cell (qbl w _ hw166_0)).trans hw166_0), ((HB.out.cell (qbl w _ hw166_1)).trans hw166_1), ((HB.out.cell (qbl w _ hw166_2)).trans hw166_2), ((HB.out.cell (qbl w _ hw166_3)).trans hw166_3), ((HB.out.cell (qbl w _ hw166_4)).trans hw166_4), ((HB.out.cell (qbl w _ hw166_5)).trans hw166_5), ((HB.out.cell (qbl w _ hw166_6)).trans hw166_6), ((HB.out.cell (qbl w _ hw166_7)).trans hw166_7), ((HB.out.cell (qbl w _ hw166_8)).trans hw166_8)⟩ (fun hHeld => ?_); refine with_tabW pr_WriteMay.tab6 pr_WriteMay.bits6 (fun HT_ HW_ => ?_)
    generalize wr.drew = w26 at BK165 HB HR166_2 hx166_0 hx166_1 hx166_2 hx166_3 hx166_4 hx166_5 hx166_6 hx166_7 hx166_8 hHeld ⊢
    refine pure_ (i := 0) (N := some 15) (v := ?_) (a' := ?_) #[qt, qf, qf, qf, qf, qf, qf, qf, qf, qf, qf, qf, qf, qf, qf, qf, qf, qf, qf, qf, qf, qf, qf, qf, qf, qf, qf] rfl rfl (any_of HT_.out (by kernel_rfl)) (fun _ _ _ h => h) (Or.inl ⟨by rfl, ?_⟩) ?_ ?_
    rotate_left
    ·intro w'
     go_simp
     with_reducible rfl
    rotate_left
    ·simp only [Act.put, qsA, qsB, qsC, i64_w, i32_w, qsD, qsE]
     rfl
    refine pure_ (i := 2) (N := some 17) (v := ?_) (a' := ?_) #[qt, qf, qt, qf, qf, qf, qf, qf, qf, qf, qf, qf, qf, qf, qf, qf, qf, qf, qf, qf, qf, qf, qf, qf, qf, qf, qf] rfl rfl (any_of HT_.out (by kernel_rfl)) (fun _ _ _ h => h) (Or.inl ⟨by rfl, ?_⟩) ?_ ?_
    rotate_left
    ·intro w'
     go_simp
     with_reducible rfl
    rotate_left
    ·simp only [Act.put, qsA, qsB, qsC, i64_w, i32_w, qsD, qsE]
     rfl
    refine take_ (i := 1) (N := some 16) (v := ?_) (a' := ?_) #[qt, qt, qt, qf, qf, qf, qf, qf, qf, qf, qf, qf, qf, qf, qf, qf, qf, qf, qf, qf, qf, qf, qf, qf, qf, qf, qf] rfl rfl (take_ofW HT_.out HW_.out (by kernel_rfl)) (fun _ _ _ h => h) (Or.inl ⟨by rfl, ?_⟩) hHeld ?_ ?_
    rotate_left
    ·rintro w' ⟨s0, s1, s2, s3, s4, s5, s6, s7, s8, s9⟩
     go_simp
     with_reducible rfl
    rotate_left
    ·simp only [Act.put, qsA, qsB, qsC, i64_w, i32_w, qsD, qsE]
     rfl
    refine pure_ (i := 3) (N := some 18) (v := ?_) (a' := ?_) #[qt, qt, qt, qt, qf, qf, qf, qf, qf, qf, qf, qf, qf, qf, qf, qf, qf, qf, qf, qf, qf, qf, qf, qf, qf, qf, qf] rfl rfl (any_of HT_.out (by kernel_rfl)) (fun _ _ _ h => h) (Or.inl ⟨by rfl, ?_⟩) ?_ ?_
    rotate_left
    ·intro w'
     go_simp
     with_reducible rfl
    rotate_left
    ·simp only [Act.put, qsA, qsB, qsC, i64_w, i32_w, qsD, qsE]
     rfl
    refine take_ (i := 4) (N := some 19) (v := ?_) (a' := ?_) #[qt, qt, qt, qt, qt, qf, qf, qf, qf, qf, qf, qf, qf, qf, qf, qf, qf, qf, qf, qf, qf, qf, qf, qf, qf, qf, qf] rfl rfl (take_ofW HT_.out HW_.out (by kernel_rfl)) (fun _ _ _ h => h) (Or.inl ⟨by rfl, ?_⟩) hHeld ?_ ?_
    rotate_left
    ·rintro w' ⟨s0, s1, s2, s3, s4, s5, s6, s7, s8, s9⟩
     go_simp
     with_reducible rfl
    rotate_left
    ·simp only [Act.put, qsA, qsB, qsC, i64_w, i32_w, qsD, qsE]
     rfl
    refine one_ (i := 5) (N := some 20) #[qt, qt, qt, qt, qt, qt, qf, qf, qf, qf, qf, qf, qf, qf, qf, qf, qf, qf, qf, qf, qf, qf, qf, qf, qf, qf, qf] rfl rfl (one_of HT_.out (by kernel_rfl)) (by decide) (fun K hK => ?_)
    refine goes_ Tryd.func58 (by kernel_rfl) rfl #[.agg #[.string ((rd_T39 l0_0 x3_1).f0), .bool ((rd_T39 l0_0 x3_1).f1), .slice A166_2 ((rd_T39 l0_0 x3_1).f2).length c166_2, .int .i64 ((rd_T39 l0_0 x3_1).f3), .int .i64 ((rd_T39 l0_0 x3_1).f4), .int .i64 ((rd_T39 l0_0 x3_1).f5), .string ((rd_T39 l0_0 x3_1).f6), .int .i64 ((rd_T39 l0_0 x3_1).f7), .int .i64 ((rd_T39 l0_0 x3_1).f8)]] (by rfl) rfl rfl (by (try simp only [List.map_toArray, List.map_cons, List.map_nil]); first | done | rfl | (simp only [List.length_drop, List.length_take]; rfl)) ?_
    with_reducible refine (pr_heldMay.calls k1 ((rd_T39 l0_0 x3_1).f0) ((rd_T39 l0_0 x3_1).f1) _ _ ((rd_T39 l0_0 x3_1).f2) ((rd_T39 l0_0 x3_1).f3) ((rd_T39 l0_0 x3_1).f4) ((rd_T39 l0_0 x3_1).f5) ((rd_T39 l0_0 x3_1).f6) ((rd_T39 l0_0 x3_1).f7) ((rd_T39 l0_0 x3_1).f8) false _ ?side1 ?side2 A9.out).mono ?_
    (case side1 => repeat (first | exact (Kd.C_below HR166_2.out HB.out) | (with_reducible refine Kd.C_alloc ?_ _) | (with_reducible refine Kd.C_drewN ?_ _) | (with_reducible refine Kd.C_drew ?_)))
    (case side2 => exact HC166_2.out)
    rintro e w27 ⟨rfl, hb⟩
    refine ⟨_, rfl, ?_⟩
    have n0_ := qas (blk_below (g := gb165) (o := .cells #[.slice (some ad166) l0_0.length c0_0] 24 (0, 0)) (by (with_reducible repeat (first | refine qkA ?_ _ | refine qkB ?_ | refine qkC ?_ _)); exact BK165.out) hb)
    have n1_ := qas (below_step (by repeat (first | (with_reducible first | exact HB.out | apply qbA | apply qbB | apply qbC | refine below_set ?_ GE165.out) | exact HB.out)) hb)
    clear BK165
    clear HB
    have BK165 := n0_
    have HB := n1_
    clear n0_ n1_
    (try clear hb)
    (try clear hb2)
    (try clear hk)
    (try clear hi)
    refine hK.out _ _ ⟨(blk_cell BK165.out 0).trans rfl, ((HB.out.cell (qbl w _ hw166_0)).trans hw166_0), ((HB.out.cell (qbl w _ hw166_1)).trans hw166_1), ((HB.out.cell (qbl w _ hw166_2)).trans hw166_2), ((HB.out.cell (qbl w _ hw166_3)).trans hw166_3), ((HB.out.cell (qbl w _ hw166_4)).trans hw166_4), ((HB.out.cell (qbl w _ hw166_5)).trans hw166_5), ((HB.out.cell (qbl w _ hw166_6)).trans hw166_6), ((HB.out.cell (qbl w _ hw166_7)).trans hw166_7), ((HB.out.cell (qbl w _ hw166_8)).trans hw166_8)⟩ (fun hHeld => ?_)
    clear hK K
    refine norm_ (a' := ?_) ?_ ?_
    rotate_left
    ·show Act.put _ (some 20) _ = _
     simp only [Act.put, qsA, qsB, qsC, i64_w, i32_w, qsD, qsE]
     rfl
    refine pure_ (i := 6) (N := some 21) (v := ?_) (a' := ?_) #[qt, qt, qt, qt, qt, qt, qt, qf, qf, qf, qf, qf, qf, qf, qf, qf, qf, qf, qf, qf, qf, qf, qf, qf, qf, qf, qf] rfl rfl (any_of HT_.out (by kernel_rfl)) (fun _ _ _ h => h) (Or.inl ⟨by rfl, ?_⟩) ?_ ?_
    rotate_left
    ·intro w'
     go_simp
     with_reducible rfl
    rotate_left
    ·simp only [Act.put, qsA, qsB, qsC, i64_w, i32_w, qsD, qsE]
     rfl
    refine pure_ (i := 7) (N := some 22) (v := ?_) (a' := ?_) #[qt, qt, qt, qt, qt, qt, qt, qt, qf, qf, qf, qf, qf, qf, qf, qf, qf, qf, qf, qf, qf, qf, qf, qf, qf, qf, qf] rfl rfl (any_of HT_.out (by kernel_rfl)) (fun _ _ _ h => h) (Or.inl ⟨by rfl, ?_⟩) ?_ ?_
    rotate_left
    ·intro w'
     go_simp
     with_reducible rfl
    rotate_left
    ·simp only [Act.put, qsA, qsB, qsC, i64_w, i32_w, qsD, qsE]
     rfl
    refine pure_ (i := 8) (N := some 23) (v := undef) (a' := ?_) #[qt, qt, qt, qt, qt, qt, qt, qt, qt, qf, qf, qf, qf, qf, qf, qf, qf, qf, qf, qf, qf, qf, qf, qf, qf, qf, qf] rfl rfl (any_of HT_.out (by kernel_rfl)) (fun _ _ _ h => h) (Or.inr ⟨by rfl, rfl⟩) ?_ ?_
    rotate_left
    ·simp only [Act.put, qsA, qsB, qsC, i64_w, i32_w, qsD, qsE]
     rfl
    refine pure_ (i := 9) (N := some 24) (v := undef) (a' := ?_) #[qt, qt, qt, qt, qt, qt, qt, qt, qt, qt, qf, qf, qf, qf, qf, qf, qf, qf, qf, qf, qf, qf, qf, qf, qf, qf, qf] rfl rfl (any_of HT_.out (by kernel_rfl)) (fun _ _ _ h => h) (Or.inr ⟨by rfl, rfl⟩) ?_ ?_
    rotate_left
    ·simp only [Act.put, qsA, qsB, qsC, i64_w, i32_w, qsD, qsE]
     rfl
    refine pure_ (i := 10) (N := some 25) (v := undef) (a' := ?_) #[qt, qt, qt, qt, qt, qt, qt, qt, qt, qt, qt, qf, qf, qf, qf, qf, qf, qf, qf, qf, qf, qf, qf, qf, qf, qf, qf] rfl rfl (any_of HT_.out (by kernel_rfl)) (fun _ _ _ h => h) (Or.inr ⟨by rfl, rfl⟩) ?_ ?_
    rotate_left
    ·simp only [Act.put, qsA, qsB, qsC, i64_w, i32_w, qsD, qsE]
     rfl
    refine pure_ (i := 11) (N := some 26) (v := undef) (a' := ?_) #[qt, qt, qt, qt, qt, qt, qt, qt, qt, qt, qt, qt, qf, qf, qf, qf, qf, qf, qf, qf, qf, qf, qf, qf, qf, qf, qf] rfl rfl (any_of HT_.out (by kernel_rfl)) (fun _ _ _ h => h) (Or.inr ⟨by rfl, rfl⟩) ?_ ?_
    rotate_left
    ·simp only [Act.put, qsA, qsB, qsC, i64_w, i32_w, qsD, qsE]
     rfl
    refine pure_ (i := 12) (N := some 27) (v := undef) (a' := ?_) #[qt, qt, qt, qt, qt, qt, qt, qt, qt, qt, qt, qt, qt, qf, qf, qf, qf, qf, qf, qf, qf, qf, qf, qf, qf, qf, qf] rfl rfl (any_of HT_.out (by kernel_rfl)) (fun _ _ _ h => h) (Or.inr ⟨by rfl, rfl⟩) ?_ ?_
    rotate_left
    ·simp only [Act.put, qsA, qsB, qsC, i64_w, i32_w, qsD, qsE]
     rfl
    refine pure_ (i := 13) (N := some 28) (v := undef) (a' := ?_) #[qt, qt, qt, qt, qt, qt, qt, qt, qt, qt, qt, qt, qt, qt, qf, qf, qf, qf, qf, qf, qf, qf, qf, qf, qf, qf, qf] rfl rfl (any_of HT_.out (by kernel_rfl)) (fun _ _ _ h => h) (Or.inr ⟨by rfl, rfl⟩) ?_ ?_
    rotate_left
    ·simp only [Act.put, qsA, qsB, qsC, i64_w, i32_w, qsD, qsE]
     rfl
    refine pure_ (i := 14) (N := some 29) (v := undef) (a' := ?_) #[qt, qt, qt, qt, qt, qt, qt, qt, qt, qt, qt, qt, qt, qt, qt, qf, qf, qf, qf, qf, qf, qf, qf, qf, qf, qf, qf] rfl rfl (any_of HT_.out (by kernel_rfl)) (fun _ _ _ h => h) (Or.inr ⟨by rfl, rfl⟩) ?_ ?_
    rotate_left
    ·simp only [Act.put, qsA, qsB, qsC, i64_w, i32_w, qsD, qsE]
     rfl
    refine pure_ (i := 15) (N := some 30) (v := undef) (a' := ?_) #[qt, qt, qt, qt, qt, qt, qt, qt, qt, qt, qt, qt, qt, qt, qt, qt, qf, qf, qf, qf, qf, qf, qf, qf, qf, qf, qf] rfl rfl (any_of HT_.out (by kernel_rfl)) (fun _ _ _ h => h) (Or.inr ⟨by rfl, rfl⟩) ?_ ?_
    rotate_left
    ·simp only [Act.put, qsA, qsB, qsC, i64_w, i32_w, qsD, qsE]
     rfl
    refine pure_ (i := 16) (N := some 31) (v := undef) (a' := ?_) #[qt, qt, qt, qt, qt, qt, qt, qt, qt, qt, qt, qt, qt, qt, qt, qt, qt, qf, qf, qf, qf, qf, qf, qf, qf, qf, qf] rfl rfl (any_of HT_.out (by kernel_rfl)) (fun _ _ _ h => h) (Or.inr ⟨by rfl, rfl⟩) ?_ ?_
    rotate_left
    ·simp only [Act.put, qsA, qsB, qsC, i64_w, i32_w, qsD, qsE]
     rfl
    refine pure_ (i := 17) (N := some 32) (v := undef) (a' := ?_) #[qt, qt, qt, qt, qt, qt, qt, qt, qt, qt, qt, qt, qt, qt, qt, qt, qt, qt, qf, qf, qf, qf, qf, qf, qf, qf, qf] rfl rfl (any_of HT_.out (by kernel_rfl)) (fun _ _ _ h => h) (Or.inr ⟨by rfl, rfl⟩) ?_ ?_
    rotate_left
    ·simp only [Act.put, qsA, qsB, qsC, i64_w, i32_w, qsD, qsE]
     rfl
    refine pure_ (i := 18) (N := some 33) (v := undef) (a' := ?_) #[qt, qt, qt, qt, qt, qt, qt, qt, qt, qt, qt, qt, qt, qt, qt, qt, qt, qt, qt, qf, qf, qf, qf, qf, qf, qf, qf] rfl rfl (any_of HT_.out (by kernel_rfl)) (fun _ _ _ h => h) (Or.inr ⟨by rfl, rfl⟩) ?_ ?_
    rotate_left
    ·simp only [Act.put, qsA, qsB, qsC, i64_w, i32_w, qsD, qsE]
     rfl
    refine pure_ (i := 19) (N := some 34) (v := undef) (a' := ?_) #[qt, qt, qt, qt, qt, qt, qt, qt, qt, qt, qt, qt, qt, qt, qt, qt, qt, qt, qt, qt, qf, qf, qf, qf, qf, qf, qf] rfl rfl (any_of HT_.out (by kernel_rfl)) (fun _ _ _ h => h) (Or.inr ⟨by rfl, rfl⟩) ?_ ?_
    rotate_left
    ·simp only [Act.put, qsA, qsB, qsC, i64_w, i32_w, qsD, qsE]
     rfl
    refine pure_ (i := 20) (N := some 35) (v := undef) (a' := ?_) #[qt, qt, qt, qt, qt, qt, qt, qt, qt, qt, qt, qt, qt, qt, qt, qt, qt, qt, qt, qt, qt, qf, qf, qf, qf, qf, qf] rfl rfl (any_of HT_.out (by kernel_rfl)) (fun _ _ _ h => h) (Or.inr ⟨by rfl, rfl⟩) ?_ ?_
    rotate_left
    ·simp only [Act.put, qsA, qsB, qsC, i64_w, i32_w, qsD, qsE]
     rfl
    refine pure_ (i := 21) (N := some 36) (v := undef) (a' := ?_) #[qt, qt, qt, qt, qt, qt, qt, qt, qt, qt, qt, qt, qt, qt, qt, qt, qt, qt, qt, qt, qt, qt, qf, qf, qf, qf, qf] rfl rfl (any_of HT_.out (by kernel_rfl)) (fun _ _ _ h => h) (Or.inr ⟨by rfl, rfl⟩) ?_ ?_
    rotate_left
    ·simp only [Act.put, qsA, qsB, qsC, i64_w, i32_w, qsD, qsE]
     rfl
    refine pure_ (i := 22) (N := some 37) (v := undef) (a' := ?_) #[qt, qt, qt, qt, qt, qt, qt, qt, qt, qt, qt, qt, qt, qt, qt, qt, qt, qt, qt, qt, qt, qt, qt, qf, qf, qf, qf] rfl rfl (any_of HT_.out (by kernel_rfl)) (fun _ _ _ h => h) (Or.inr ⟨by rfl, rfl⟩) ?_ ?_
    rotate_left
    ·simp only [Act.put, qsA, qsB, qsC, i64_w, i32_w, qsD, qsE]
     rfl
    refine pure_ (i := 23) (N := some 38) (v := undef) (a' := ?_) #[qt, qt, qt, qt, qt, qt, qt, qt, qt, qt, qt, qt, qt, qt, qt, qt, qt, qt, qt, qt, qt, qt, qt, qt, qf, qf, qf] rfl rfl (any_of HT_.out (by kernel_rfl)) (fun _ _ _ h => h) (Or.inr ⟨by rfl, rfl⟩) ?_ ?_
    rotate_left
    ·simp only [Act.put, qsA, qsB, qsC, i64_w, i32_w, qsD, qsE]
     rfl
    refine pure_ (i := 24) (N := some 39) (v := undef) (a' := ?_) #[qt, qt, qt, qt, qt, qt, qt, qt, qt, qt, qt, qt, qt, qt, qt, qt, qt, qt, qt, qt, qt, qt, qt, qt, qt, qf, qf] rfl rfl (any_of HT_.out (by kernel_rfl)) (fun _ _ _ h => h) (Or.inr ⟨by rfl, rfl⟩) ?_ ?_
    rotate_left
    ·simp only [Act.put, qsA, qsB, qsC, i64_w, i32_w, qsD, qsE]
     rfl
    refine pure_ (i := 25) (N := some 40) (v := undef) (a' := ?_) #[qt, qt, qt, qt, qt, qt, qt, qt, qt, qt, qt, qt, qt, qt, qt, qt, qt, qt, qt, qt, qt, qt, qt, qt, qt, qt, qf] rfl rfl (any_of HT_.out (by kernel_rfl)) (fun _ _ _ h => h) (Or.inr ⟨by rfl, rfl⟩) ?_ ?_
    rotate_left
    ·simp only [Act.put, qsA, qsB, qsC, i64_w, i32_w, qsD, qsE]
     rfl
    refine pure_ (i := 26) (N := some 41) (v := ?_) (a' := ?_) #[qt, qt, qt, qt, qt, qt, qt, qt, qt, qt, qt, qt, qt, qt, qt, qt, qt, qt, qt, qt, qt, qt, qt, qt, qt, qt, qt] rfl rfl (any_of HT_.out (by kernel_rfl)) (fun _ _ _ h => h) (Or.inl ⟨by rfl, ?_⟩) ?_ ?_
    rotate_left
    ·intro w'
     go_simp
     with_reducible rfl
    rotate_left
    ·simp only [Act.put, qsA, qsB, qsC, i64_w, i32_w, qsD, qsE]
     rfl
    refine done_ (done_of HT_.out (by kernel_rfl)) ?_
    try go_wp2
    go_ret
    exact ⟨by first | rfl | (simp [errW_none, errW_some] <;> rfl) | (simp [*, errW_none, errW_some] <;> rfl), by repeat (first | (with_reducible first | exact HB.out | apply qbA | apply qbB | apply qbC | refine below_set ?_ GE165.out) | exact HB.out)⟩
   subst c10
   have H1 : (if x3_1 > 0 then (if 0 ≤ (wrap64 (x3_1 - 1)) then (if (wrap64 (x3_1 - 1)) < (l0_0.length : Int) then (if ((Op.bytesLess (((rd_T39 l0_0 (wrap64 (x3_1 - 1))).f0).toList) (((rd_T39 l0_0 x3_1).f0).toList)) = true) then (pr_WriteMay.l0 k1 (wrap64 (x3_1 + 1)) l0_0) else (some false)) else (none)) else (none)) else (pr_WriteMay.l0 k1 (wrap64 (x3_1 + 1)) l0_0)) = some r := by rw [if_pos rfl] at H; exact H
   clear H
   have H := H1
   clear H1
   by_cases c11 : x3_1 > 0
   rotate_left
   ·rw [if_neg c11] at H
    have c11b0 : decide (0 < x3_1) = false := decide_eq_false c11
    clear c11
    have H' := qas H
    clear H
    have hcz22_0 : wr.cell? ⟨gb165, 0, none⟩ = some (.slice A0_0 l0_0.length c0_0) := (blk_cell BK165.out 0).trans rfl
    have hfz22_0 := blk_frozen BK165.out 0
    try go_wp2
    have n0_ := qas (qkB BK165.out)
    have n1_ := qas (qbC HB.out)
    clear BK165
    clear HB
    have BK165 := n0_
    have HB := n1_
    clear n0_ n1_
    have p166 : 0 ≤ (x3_1 : Int) := qde (by first | (with_reducible assumption) | assumption)
    have q166 : x3_1 < (l0_0.length : Int) := qde (by first | (with_reducible assumption) | assumption)
    obtain ⟨ad166, A166_2, c166_2, e166, hx166_0, hx166_1, hx166_2, hx166_3, hx166_4, hx166_5, hx166_6, hx166_7, hx166_8, hl166_2, hi166_2⟩ := at_T39 HR0_0.out x3_1 p166 q166
    have hw166_8 := hx166_8
    have hw166_7 := hx166_7
    have hw166_6 := hx166_6
    have hw166_5 := hx166_5
    have hw166_4 := hx166_4
    have hw166_3 := hx166_3
    have hw166_2 := hx166_2
    have hw166_1 := hx166_1
    have hw166_0 := hx166_0
    cases e166
    replace hx166_0 := (HB.out.cell (qbl w _ hx166_0)).trans hx166_0
    replace hx166_1 := (HB.out.cell (qbl w _ hx166_1)).trans hx166_1
    replace hx166_2 := (HB.out.cell (qbl w _ hx166_2)).trans hx166_2
    replace hx166_3 := (HB.out.cell (qbl w _ hx166_3)).trans hx166_3
    replace hx166_4 := (HB.out.cell (qbl w _ hx166_4)).trans hx166_4
    replace hx166_5 := (HB.out.cell (qbl w _ hx166_5)).trans hx166_5
    replace hx166_6 := (HB.out.cell (qbl w _ hx166_6)).trans hx166_6
    replace hx166_7 := (HB.out.cell (qbl w _ hx166_7)).trans hx166_7
    replace hx166_8 := (HB.out.cell (qbl w _ hx166_8)).trans hx166_8
    have HR166_2 := qas hi166_2
    have HC166_2 := qas hl166_2
    clear hi166_2 hl166_2
    replace p166 := eq_true p166
    replace q166 := eq_true q166
    refine start_ (n := 27) (S := fun w' => w'.cell? ⟨gb165, 0, none⟩ = some (.slice (some ad166) l0_0.length c0_0) ∧ w'.cell? (ad166.add ((x3_1).toNat * 9)) = some (.string ((rd_T39 l0_0 x3_1).f0)) ∧ w'.cell? ⟨(ad166.add ((x3_1).toNat * 9)).block, (ad166.add ((x3_1).toNat * 9)).off + 1, none⟩ = some (.bool ((rd_T39 l0_0 x3_1).f1)) ∧ w'.cell? ⟨(ad166.add ((x3_1).toNat * 9)).block, (ad166.add ((x3_1).toNat * 9)).off + 2, none⟩ = some (.slice A166_2 ((rd_T39 l0_0 x3_1).f2).length c166_2) ∧ w'.cell? ⟨(ad166.add ((x3_1).toNat * 9)).block, (ad166.add ((x3_1).toNat * 9)).off + 3, none⟩ = some (.int .i64 ((rd_T39 l0_0 x3_1).f3)) ∧ w'.cell? ⟨(ad166.add ((x3_1).toNat * 9)).block, (ad166.add ((x3_1).toNat * 9)).off + 4, none⟩ = some (.int .i64 ((rd_T39 l0_0 x3_1).f4)) ∧ w'.cell? ⟨(ad166.add ((x3_1).toNat * 9)).block, (ad166.add ((x3_1).toNat * 9)).off + 5, none⟩ = some (.int .i64 ((rd_T39 l0_0 x3_1).f5)) ∧ w'.cell? ⟨(ad166.add ((x3_1).toNat * 9)).block, (ad166.add ((x3_1).toNat * 9)).off + 6, none⟩ = some (.string ((rd_T39 l0_0 x3_1).f6)) ∧ w'.cell? ⟨(ad166.add ((x3_1).toNat * 9)).block, (ad166.add ((x3_1).toNat * 9)).off + 7, none⟩ = some (.int .i64 ((rd_T39 l0_0 x3_1).f7)) ∧ w'.cell? ⟨(ad166.add ((x3_1).toNat * 9)).block, (ad166.add ((x3_1).toNat * 9)).off + 8, none⟩ = some (.int .i64 ((rd_T39 l0_0 x3_1).f8))) (ds := []) #[qf, qf, qf, qf, qf, qf, qf, qf, qf, qf, qf, qf, qf, qf, qf, qf, qf, qf, qf, qf, qf, qf, qf, qf, qf, qf, qf] (by kernel_rfl) rfl rfl ⟨(blk_cell BK165.out 0).trans rfl, ((HB.out.cell (qbl w _ hw166_0)).trans hw166_0), ((HB.out.cell (qbl w _ hw166_1)).trans hw166_1), ((HB.out.cell (qbl w _ hw166_2)).trans hw166_2), ((HB.out.cell (qbl w _ hw166_3)).trans hw166_3), ((HB.out.cell (qbl w _ hw166_4)).trans hw166_4), ((HB.out.cell (qbl w _ hw166_5)).trans hw166_5), ((HB.out.cell (qbl w _ hw166_6)).trans hw166_6), ((HB.out.cell (qbl w _ hw166_7)).trans hw166_7), ((HB.out.cell (qbl w _ hw166_8)).trans hw166_8)⟩ (fun hHeld => ?_); refine with_tabW pr_WriteMay.tab6 pr_WriteMay.bits6 (fun HT_ HW_ => ?_)
    generalize wr.drew = w23 at BK165 HB HR166_2 hx166_0 hx166_1 hx166_2 hx166_3 hx166_4 hx166_5 hx166_6 hx166_7 hx166_8 hHeld ⊢
    refine pure_ (i := 0) (N := some 15) (v := ?_) (a' := ?_) #[qt, qf, qf, qf, qf, qf, qf, qf, qf, qf, qf, qf, qf, qf, qf, qf, qf, qf, qf, qf, qf, qf, qf, qf, qf, qf, qf] rfl rfl (any_of HT_.out (by kernel_rfl)) (fun _ _ _ h => h) (Or.inl ⟨by rfl, ?_⟩) ?_ ?_
    rotate_left
    ·intro w'
     go_simp
     with_reducible rfl
    rotate_left
    ·simp only [Act.put, qsA, qsB, qsC, i64_w, i32_w, qsD, qsE]
     rfl
    refine pure_ (i := 2) (N := some 17) (v := ?_) (a' := ?_) #[qt, qf, qt, qf, qf, qf, qf, qf, qf, qf, qf, qf, qf, qf, qf, qf, qf, qf, qf, qf, qf, qf, qf, qf, qf, qf, qf] rfl rfl (any_of HT_.out (by kernel_rfl)) (fun _ _ _ h => h) (Or.inl ⟨by rfl, ?_⟩) ?_ ?_
    rotate_left
    ·intro w'
     go_simp
     with_reducible rfl
    rotate_left
    ·simp only [Act.put, qsA, qsB, qsC, i64_w, i32_w, qsD, qsE]
     rfl
    refine take_ (i := 1) (N := some 16) (v := ?_) (a' := ?_) #[qt, qt, qt, qf, qf, qf, qf, qf, qf, qf, qf, qf, qf, qf, qf, qf, qf, qf, qf, qf, qf, qf, qf, qf, qf, qf, qf] rfl rfl (take_ofW HT_.out HW_.out (by kernel_rfl)) (fun _ _ _ h => h) (Or.inl ⟨by rfl, ?_⟩) hHeld ?_ ?_
    rotate_left
    ·rintro w' ⟨s0, s1, s2, s3, s4, s5, s6, s7, s8, s9⟩
     go_simp
     with_reducible rfl
    rotate_left
    ·simp only [Act.put, qsA, qsB, qsC, i64_w, i32_w, qsD, qsE]
     rfl
    refine pure_ (i := 3) (N := some 18) (v := ?_) (a' := ?_) #[qt, qt, qt, qt, qf, qf, qf, qf, qf, qf, qf, qf, qf, qf, qf, qf, qf, qf, qf, qf, qf, qf, qf, qf, qf, qf, qf] rfl rfl (any_of HT_.out (by kernel_rfl)) (fun _ _ _ h => h) (Or.inl ⟨by rfl, ?_⟩) ?_ ?_
    rotate_left
    ·intro w'
     go_simp
     with_reducible rfl
    rotate_left
    ·simp only [Act.put, qsA, qsB, qsC, i64_w, i32_w, qsD, qsE]
     rfl
    refine take_ (i := 4) (N := some 19) (v := ?_) (a' := ?_) #[qt, qt, qt, qt, qt, qf, qf, qf, qf, qf, qf, qf, qf, qf, qf, qf, qf, qf, qf, qf, qf, qf, qf, qf, qf, qf, qf] rfl rfl (take_ofW HT_.out HW_.out (by kernel_rfl)) (fun _ _ _ h => h) (Or.inl ⟨by rfl, ?_⟩) hHeld ?_ ?_
    rotate_left
    ·rintro w' ⟨s0, s1, s2, s3, s4, s5, s6, s7, s8, s9⟩
     go_simp
     with_reducible rfl
    rotate_left
    ·simp only [Act.put, qsA, qsB, qsC, i64_w, i32_w, qsD, qsE]
     rfl
    refine one_ (i := 5) (N := some 20) #[qt, qt, qt, qt, qt, qt, qf, qf, qf, qf, qf, qf, qf, qf, qf, qf, qf, qf, qf, qf, qf, qf, qf, qf, qf, qf, qf] rfl rfl (one_of HT_.out (by kernel_rfl)) (by decide) (fun K hK => ?_)
    refine goes_ Tryd.func58 (by kernel_rfl) rfl #[.agg #[.string ((rd_T39 l0_0 x3_1).f0), .bool ((rd_T39 l0_0 x3_1).f1), .slice A166_2 ((rd_T39 l0_0 x3_1).f2).length c166_2, .int .i64 ((rd_T39 l0_0 x3_1).f3), .int .i64 ((rd_T39 l0_0 x3_1).f4), .int .i64 ((rd_T39 l0_0 x3_1).f5), .string ((rd_T39 l0_0 x3_1).f6), .int .i64 ((rd_T39 l0_0 x3_1).f7), .int .i64 ((rd_T39 l0_0 x3_1).f8)]] (by rfl) rfl rfl (by (try simp only [List.map_toArray, List.map_cons, List.map_nil]); first | done | rfl | (simp only [List.length_drop, List.length_take]; rfl)) ?_
    with_reducible refine (pr_heldMay.calls k1 ((rd_T39 l0_0 x3_1).f0) ((rd_T39 l0_0 x3_1).f1) _ _ ((rd_T39 l0_0 x3_1).f2) ((rd_T39 l0_0 x3_1).f3) ((rd_T39 l0_0 x3_1).f4) ((rd_T39 l0_0 x3_1).f5) ((rd_T39 l0_0 x3_1).f6) ((rd_T39 l0_0 x3_1).f7) ((rd_T39 l0_0 x3_1).f8) true _ ?side1 ?side2 A9.out).mono ?_
    (case side1 => repeat (first | exact (Kd.C_below HR166_2.out HB.out) | (with_reducible refine Kd.C_alloc ?_ _) | (with_reducible refine Kd.C_drewN ?_ _) | (with_reducible refine Kd.C_drew ?_)))
    (case side2 => exact HC166_2.out)
    rintro e w24 ⟨rfl, hb⟩
    refine ⟨_, rfl, ?_⟩
    have n0_ := qas (blk_below (g := gb165) (o := .cells #[.slice (some ad166) l0_0.length c0_0] 24 (0, 0)) (by (with_reducible repeat (first | refine qkA ?_ _ | refine qkB ?_ | refine qkC ?_ _)); exact BK165.out) hb)
    have n1_ := qas (below_step (by repeat (first | (with_reducible first | exact HB.out | apply qbA | apply qbB | apply qbC | refine below_set ?_ GE165.out) | exact HB.out)) hb)
    clear BK165
    clear HB
    have BK165 := n0_
    have HB := n1_
    clear n0_ n1_
    (try clear hb)
    (try clear hb2)
    (try clear hk)
    (try clear hi)
    refine hK.out _ _ ⟨(blk_cell BK165.out 0).trans rfl, ((HB.out.cell (qbl w _ hw166_0)).trans hw166_0), ((HB.out.cell (qbl w _ hw166_1)).trans hw166_1), ((HB.out.cell (qbl w _ hw166_2)).trans hw166_2), ((HB.out.cell (qbl w _ hw166_3)).trans hw166_3), ((HB.out.cell (qbl w _ hw166_4)).trans hw166_4), ((HB.out.cell (qbl w _ hw166_5)).trans hw166_5), ((HB.out.cell (qbl w _ hw166_6)).trans hw166_6), ((HB.out.cell (qbl w _ hw166_7)).trans hw166_7), ((HB.out.cell (qbl w _ hw166_8)).trans hw166_8)⟩ (fun hHeld => ?_)
    clear hK K
    refine norm_ (a' := ?_) ?_ ?_
    rotate_left
    ·show Act.put _ (some 20) _ = _
     simp only [Act.put, qsA, qsB, qsC, i64_w, i32_w, qsD, qsE]
     rfl
    refine pure_ (i := 6) (N := some 21) (v := ?_) (a' := ?_) #[qt, qt, qt, qt, qt, qt, qt, qf, qf, qf, qf, qf, qf, qf, qf, qf, qf, qf, qf, qf, qf, qf, qf, qf, qf, qf, qf] rfl rfl (any_of HT_.out (by kernel_rfl)) (fun _ _ _ h => h) (Or.inl ⟨by rfl, ?_⟩) ?_ ?_
    rotate_left
    ·intro w'
     go_simp
     with_reducible rfl
    rotate_left
    ·simp only [Act.put, qsA, qsB, qsC, i64_w, i32_w, qsD, qsE]
     rfl
    refine pure_ (i := 7) (N := some 22) (v := ?_) (a' := ?_) #[qt, qt, qt, qt, qt, qt, qt, qt, qf, qf, qf, qf, qf, qf, qf, qf, qf, qf, qf, qf, qf, qf, qf, qf, qf, qf, qf] rfl rfl (any_of HT_.out (by kernel_rfl)) (fun _ _ _ h => h) (Or.inl ⟨by rfl, ?_⟩) ?_ ?_
    rotate_left
    ·intro w'
     go_simp
     with_reducible rfl
    rotate_left
    ·simp only [Act.put, qsA, qsB, qsC, i64_w, i32_w, qsD, qsE]
     rfl
    refine pure_ (i := 8) (N := some 23) (v := ?_) (a' := ?_) #[qt, qt, qt, qt, qt, qt, qt, qt, qt, qf, qf, qf, qf, qf, qf, qf, qf, qf, qf, qf, qf, qf, qf, qf, qf, qf, qf] rfl rfl (any_of HT_.out (by kernel_rfl)) (fun _ _ _ h => h) (Or.inl ⟨by rfl, ?_⟩) ?_ ?_
    rotate_left
    ·intro w'
     go_simp
     with_reducible rfl
    rotate_left
    ·simp only [Act.put, qsA, qsB, qsC, i64_w, i32_w, qsD, qsE]
     rfl
    refine pure_ (i := 9) (N := some 24) (v := ?_) (a' := ?_) #[qt, qt, qt, qt, qt, qt, qt, qt, qt, qt, qf, qf, qf, qf, qf, qf, qf, qf, qf, qf, qf, qf, qf, qf, qf, qf, qf] rfl rfl (any_of HT_.out (by kernel_rfl)) (fun _ _ _ h => h) (Or.inl ⟨by rfl, ?_⟩) ?_ ?_
    rotate_left
    ·intro w'
     go_simp
     with_reducible rfl
    rotate_left
    ·simp only [Act.put, qsA, qsB, qsC, i64_w, i32_w, qsD, qsE]
     rfl
    refine pure_ (i := 10) (N := some 25) (v := ?_) (a' := ?_) #[qt, qt, qt, qt, qt, qt, qt, qt, qt, qt, qt, qf, qf, qf, qf, qf, qf, qf, qf, qf, qf, qf, qf, qf, qf, qf, qf] rfl rfl (any_of HT_.out (by kernel_rfl)) (fun _ _ _ h => h) (Or.inl ⟨by rfl, ?_⟩) ?_ ?_
    rotate_left
    ·intro w'
     go_simp
     with_reducible rfl
    rotate_left
    ·simp only [Act.put, qsA, qsB, qsC, i64_w, i32_w, qsD, qsE]
     rfl
    refine pure_ (i := 11) (N := some 26) (v := undef) (a' := ?_) #[qt, qt, qt, qt, qt, qt, qt, qt, qt, qt, qt, qt, qf, qf, qf, qf, qf, qf, qf, qf, qf, qf, qf, qf, qf, qf, qf] rfl rfl (any_of HT_.out (by kernel_rfl)) (fun _ _ _ h => h) (Or.inr ⟨by rfl, rfl⟩) ?_ ?_
    rotate_left
    ·simp only [Act.put, qsA, qsB, qsC, i64_w, i32_w, qsD, qsE]
     rfl
    refine pure_ (i := 12) (N := some 27) (v := undef) (a' := ?_) #[qt, qt, qt, qt, qt, qt, qt, qt, qt, qt, qt, qt, qt, qf, qf, qf, qf, qf, qf, qf, qf, qf, qf, qf, qf, qf, qf] rfl rfl (any_of HT_.out (by kernel_rfl)) (fun _ _ _ h => h) (Or.inr ⟨by rfl, rfl⟩) ?_ ?_
    rotate_left
    ·simp only [Act.put, qsA, qsB, qsC, i64_w, i32_w, qsD, qsE]
     rfl
    refine pure_ (i := 13) (N := some 28) (v := undef) (a' := ?_) #[qt, qt, qt, qt, qt, qt, qt, qt, qt, qt, qt, qt, qt, qt, qf, qf, qf, qf, qf, qf, qf, qf, qf, qf, qf, qf, qf] rfl rfl (any_of HT_.out (by kernel_rfl)) (fun _ _ _ h => h) (Or.inr ⟨by rfl, rfl⟩) ?_ ?_
    rotate_left
    ·simp only [Act.put, qsA, qsB, qsC, i64_w, i32_w, qsD, qsE]
     rfl
    refine pure_ (i := 14) (N := some 29) (v := undef) (a' := ?_) #[qt, qt, qt, qt, qt, qt, qt, qt, qt, qt, qt, qt, qt, qt, qt, qf, qf, qf, qf, qf, qf, qf, qf, qf, qf, qf, qf] rfl rfl (any_of HT_.out (by kernel_rfl)) (fun _ _ _ h => h) (Or.inr ⟨by rfl, rfl⟩) ?_ ?_
    rotate_left
    ·simp only [Act.put, qsA, qsB, qsC, i64_w, i32_w, qsD, qsE]
     rfl
    refine pure_ (i := 15) (N := some 30) (v := undef) (a' := ?_) #[qt, qt, qt, qt, qt, qt, qt, qt, qt, qt, qt, qt, qt, qt, qt, qt, qf, qf, qf, qf, qf, qf, qf, qf, qf, qf, qf] rfl rfl (any_of HT_.out (by kernel_rfl)) (fun _ _ _ h => h) (Or.inr ⟨by rfl, rfl⟩) ?_ ?_
    rotate_left
    ·simp only [Act.put, qsA, qsB, qsC, i64_w, i32_w, qsD, qsE]
     rfl
    refine pure_ (i := 16) (N := some 31) (v := undef) (a' := ?_) #[qt, qt, qt, qt, qt, qt, qt, qt, qt, qt, qt, qt, qt, qt, qt, qt, qt, qf, qf, qf, qf, qf, qf, qf, qf, qf, qf] rfl rfl (any_of HT_.out (by kernel_rfl)) (fun _ _ _ h => h) (Or.inr ⟨by rfl, rfl⟩) ?_ ?_
    rotate_left
    ·simp only [Act.put, qsA, qsB, qsC, i64_w, i32_w, qsD, qsE]
     rfl
    refine pure_ (i := 17) (N := some 32) (v := undef) (a' := ?_) #[qt, qt, qt, qt, qt, qt, qt, qt, qt, qt, qt, qt, qt, qt, qt, qt, qt, qt, qf, qf, qf, qf, qf, qf, qf, qf, qf] rfl rfl (any_of HT_.out (by kernel_rfl)) (fun _ _ _ h => h) (Or.inr ⟨by rfl, rfl⟩) ?_ ?_
    rotate_left
    ·simp only [Act.put, qsA, qsB, qsC, i64_w, i32_w, qsD, qsE]
     rfl
    refine pure_ (i := 18) (N := some 33) (v := undef) (a' := ?_) #[qt, qt, qt, qt, qt, qt, qt, qt, qt, qt, qt, qt, qt, qt, qt, qt, qt, qt, qt, qf, qf, qf, qf, qf, qf, qf, qf] rfl rfl (any_of HT_.out (by kernel_rfl)) (fun _ _ _ h => h) (Or.inr ⟨by rfl, rfl⟩) ?_ ?_
    rotate_left
    ·simp only [Act.put, qsA, qsB, qsC, i64_w, i32_w, qsD, qsE]
     rfl
    refine pure_ (i := 19) (N := some 34) (v := undef) (a' := ?_) #[qt, qt, qt, qt, qt, qt, qt, qt, qt, qt, qt, qt, qt, qt, qt, qt, qt, qt, qt, qt, qf, qf, qf, qf, qf, qf, qf] rfl rfl (any_of HT_.out (by kernel_rfl)) (fun _ _ _ h => h) (Or.inr ⟨by rfl, rfl⟩) ?_ ?_
    rotate_left
    ·simp only [Act.put, qsA, qsB, qsC, i64_w, i32_w, qsD, qsE]
     rfl
    refine pure_ (i := 20) (N := some 35) (v := undef) (a' := ?_) #[qt, qt, qt, qt, qt, qt, qt, qt, qt, qt, qt, qt, qt, qt, qt, qt, qt, qt, qt, qt, qt, qf, qf, qf, qf, qf, qf] rfl rfl (any_of HT_.out (by kernel_rfl)) (fun _ _ _ h => h) (Or.inr ⟨by rfl, rfl⟩) ?_ ?_
    rotate_left
    ·simp only [Act.put, qsA, qsB, qsC, i64_w, i32_w, qsD, qsE]
     rfl
    refine pure_ (i := 21) (N := some 36) (v := undef) (a' := ?_) #[qt, qt, qt, qt, qt, qt, qt, qt, qt, qt, qt, qt, qt, qt, qt, qt, qt, qt, qt, qt, qt, qt, qf, qf, qf, qf, qf] rfl rfl (any_of HT_.out (by kernel_rfl)) (fun _ _ _ h => h) (Or.inr ⟨by rfl, rfl⟩) ?_ ?_
    rotate_left
    ·simp only [Act.put, qsA, qsB, qsC, i64_w, i32_w, qsD, qsE]
     rfl
    refine pure_ (i := 22) (N := some 37) (v := undef) (a' := ?_) #[qt, qt, qt, qt, qt, qt, qt, qt, qt, qt, qt, qt, qt, qt, qt, qt, qt, qt, qt, qt, qt, qt, qt, qf, qf, qf, qf] rfl rfl (any_of HT_.out (by kernel_rfl)) (fun _ _ _ h => h) (Or.inr ⟨by rfl, rfl⟩) ?_ ?_
    rotate_left
    ·simp only [Act.put, qsA, qsB, qsC, i64_w, i32_w, qsD, qsE]
     rfl
    refine pure_ (i := 23) (N := some 38) (v := undef) (a' := ?_) #[qt, qt, qt, qt, qt, qt, qt, qt, qt, qt, qt, qt, qt, qt, qt, qt, qt, qt, qt, qt, qt, qt, qt, qt, qf, qf, qf] rfl rfl (any_of HT_.out (by kernel_rfl)) (fun _ _ _ h => h) (Or.inr ⟨by rfl, rfl⟩) ?_ ?_
    rotate_left
    ·simp only [Act.put, qsA, qsB, qsC, i64_w, i32_w, qsD, qsE]
     rfl
    refine pure_ (i := 24) (N := some 39) (v := undef) (a' := ?_) #[qt, qt, qt, qt, qt, qt, qt, qt, qt, qt, qt, qt, qt, qt, qt, qt, qt, qt, qt, qt, qt, qt, qt, qt, qt, qf, qf] rfl rfl (any_of HT_.out (by kernel_rfl)) (fun _ _ _ h => h) (Or.inr ⟨by rfl, rfl⟩) ?_ ?_
    rotate_left
    ·simp only [Act.put, qsA, qsB, qsC, i64_w, i32_w, qsD, qsE]
     rfl
    refine pure_ (i := 25) (N := some 40) (v := ?_) (a' := ?_) #[qt, qt, qt, qt, qt, qt, qt, qt, qt, qt, qt, qt, qt, qt, qt, qt, qt, qt, qt, qt, qt, qt, qt, qt, qt, qt, qf] rfl rfl (any_of HT_.out (by kernel_rfl)) (fun _ _ _ h => h) (Or.inl ⟨by rfl, ?_⟩) ?_ ?_
    rotate_left
    ·intro w'
     go_simp
     with_reducible rfl
    rotate_left
    ·simp only [Act.put, qsA, qsB, qsC, i64_w, i32_w, qsD, qsE]
     rfl
    refine pure_ (i := 26) (N := some 41) (v := ?_) (a' := ?_) #[qt, qt, qt, qt, qt, qt, qt, qt, qt, qt, qt, qt, qt, qt, qt, qt, qt, qt, qt, qt, qt, qt, qt, qt, qt, qt, qt] rfl rfl (any_of HT_.out (by kernel_rfl)) (fun _ _ _ h => h) (Or.inl ⟨by rfl, ?_⟩) ?_ ?_
    rotate_left
    ·intro w'
     go_simp
     with_reducible rfl
    rotate_left
    ·simp only [Act.put, qsA, qsB, qsC, i64_w, i32_w, qsD, qsE]
     rfl
    refine done_ (done_of HT_.out (by kernel_rfl)) ?_
    try go_wp2
    go_roundg k1
    case measure => have := HK1.out; omega
    case rel => exact ⟨(wrap64 (x3_1 + 1)), (by first | rfl | (simp; done) | (simp [*]; done)), H', ⟨by have := HK1.out; omega⟩, ⟨by (with_reducible repeat (first | refine qkA ?_ _ | refine qkB ?_ | refine qkC ?_ _)); exact BK165.out⟩, ⟨by repeat (first | (with_reducible first | exact HB.out | apply qbA | apply qbB | apply qbC | refine below_set ?_ GE165.out) | exact HB.out)⟩⟩
   rw [if_pos c11] at H
   have c11b0 : decide (0 < x3_1) = true := decide_eq_true c11
   clear c11
   obtain ⟨ji12, hji12⟩ : ∃ j_ : Int, (wrap64 (x3_1 - 1)) = j_ := ⟨_, rfl⟩
   replace H : (if 0 ≤ (ji12) then (if (ji12) < (l0_0.length : Int) then (if ((Op.bytesLess (((rd_T39 l0_0 (ji12)).f0).toList) (((rd_T39 l0_0 x3_1).f0).toList)) = true) then (pr_WriteMay.l0 k1 (wrap64 (x3_1 + 1)) l0_0) else (some false)) else (none)) else (none)) = some r := by first | (rw [hji12] at H; exact H) | (simp only [hji12] at H ⊢; exact H)
   (try rw [hji12] at A9)
   have hji12w : (IntKind.i64.wrap (x3_1 - 1)) = ji12 := (i64_w _).trans hji12
   by_cases c13 : 0 ≤ (ji12)
   rotate_left
   ·rw [if_neg c13] at H
    exact absurd H (by simp)
   rw [if_pos c13] at H
   have c13b0 : decide (0 ≤ (ji12)) = true := decide_eq_true c13
   clear c13
   by_cases c14 : (ji12) < (l0_0.length : Int)
   rotate_left
   ·rw [if_neg c14] at H
    exact absurd H (by simp)
   rw [if_pos c14] at H
   have c14b0 : decide ((ji12) < (l0_0.length : Int)) = true := decide_eq_true c14
   clear c14
   by_cases c15 : ((Op.bytesLess (((rd_T39 l0_0 (ji12)).f0).toList) (((rd_T39 l0_0 x3_1).f0).toList)) = true)
   rotate_left
   ·rw [if_neg c15] at H
    have c15b0 : (Op.bytesLess (((rd_T39 l0_0 (ji12)).f0).toList) (((rd_T39 l0_0 x3_1).f0).toList)) = false := by simpa using c15
    have c15b0x : (Op.bytesLess (((rd_T39 l0_0 x3_1).f0).toList) (((rd_T39 l0_0 (ji12)).f0).toList) || (((rd_T39 l0_0 x3_1).f0).toList) == (((rd_T39 l0_0 (ji12)).f0).toList)) = !false := Go.Proofs.YtneogampbohfnaaDoorW.Lq.leq_of c15b0
    simp only [Bool.not_true, Bool.not_false] at c15b0x
    clear c15
    obtain rfl := Option.some.inj H
    have hcz19_0 : wr.cell? ⟨gb165, 0, none⟩ = some (.slice A0_0 l0_0.length c0_0) := (blk_cell BK165.out 0).trans rfl
    have hfz19_0 := blk_frozen BK165.out 0
    try go_wp2
    have n0_ := qas (qkB BK165.out)
    have n1_ := qas (qbC HB.out)
    clear BK165
    clear HB
    have BK165 := n0_
    have HB := n1_
    clear n0_ n1_
    have p166 : 0 ≤ (x3_1 : Int) := qde (by first | (with_reducible assumption) | assumption)
    have q166 : x3_1 < (l0_0.length : Int) := qde (by first | (with_reducible assumption) | assumption)
    obtain ⟨ad166, A166_2, c166_2, e166, hx166_0, hx166_1, hx166_2, hx166_3, hx166_4, hx166_5, hx166_6, hx166_7, hx166_8, hl166_2, hi166_2⟩ := at_T39 HR0_0.out x3_1 p166 q166
    have hw166_8 := hx166_8
    have hw166_7 := hx166_7
    have hw166_6 := hx166_6
    have hw166_5 := hx166_5
    have hw166_4 := hx166_4
    have hw166_3 := hx166_3
    have hw166_2 := hx166_2
    have hw166_1 := hx166_1
    have hw166_0 := hx166_0
    cases e166
    replace hx166_0 := (HB.out.cell (qbl w _ hx166_0)).trans hx166_0
    replace hx166_1 := (HB.out.cell (qbl w _ hx166_1)).trans hx166_1
    replace hx166_2 := (HB.out.cell (qbl w _ hx166_2)).trans hx166_2
    replace hx166_3 := (HB.out.cell (qbl w _ hx166_3)).trans hx166_3
    replace hx166_4 := (HB.out.cell (qbl w _ hx166_4)).trans hx166_4
    replace hx166_5 := (HB.out.cell (qbl w _ hx166_5)).trans hx166_5
    replace hx166_6 := (HB.out.cell (qbl w _ hx166_6)).trans hx166_6
    replace hx166_7 := (HB.out.cell (qbl w _ hx166_7)).trans hx166_7
    replace hx166_8 := (HB.out.cell (qbl w _ hx166_8)).trans hx166_8
    have HR166_2 := qas hi166_2
    have HC166_2 := qas hl166_2
    clear hi166_2 hl166_2
    replace p166 := eq_true p166
    replace q166 := eq_true q166
    have p168 : 0 ≤ (x3_1 : Int) := qde (by first | (with_reducible assumption) | assumption)
    have q168 : x3_1 < (l0_0.length : Int) := qde (by first | (with_reducible assumption) | assumption)
    obtain ⟨ad168, A168_2, c168_2, e168, hx168_0, hx168_1, hx168_2, hx168_3, hx168_4, hx168_5, hx168_6, hx168_7, hx168_8, hl168_2, hi168_2⟩ := at_T39 HR0_0.out x3_1 p168 q168
    have hw168_8 := hx168_8
    have hw168_7 := hx168_7
    have hw168_6 := hx168_6
    have hw168_5 := hx168_5
    have hw168_4 := hx168_4
    have hw168_3 := hx168_3
    have hw168_2 := hx168_2
    have hw168_1 := hx168_1
    have hw168_0 := hx168_0
    obtain rfl : ad166 = ad168 := (by injection e168)
    replace hx168_0 := (HB.out.cell (qbl w _ hx168_0)).trans hx168_0
    replace hx168_1 := (HB.out.cell (qbl w _ hx168_1)).trans hx168_1
    replace hx168_2 := (HB.out.cell (qbl w _ hx168_2)).trans hx168_2
    replace hx168_3 := (HB.out.cell (qbl w _ hx168_3)).trans hx168_3
    replace hx168_4 := (HB.out.cell (qbl w _ hx168_4)).trans hx168_4
    replace hx168_5 := (HB.out.cell (qbl w _ hx168_5)).trans hx168_5
    replace hx168_6 := (HB.out.cell (qbl w _ hx168_6)).trans hx168_6
    replace hx168_7 := (HB.out.cell (qbl w _ hx168_7)).trans hx168_7
    replace hx168_8 := (HB.out.cell (qbl w _ hx168_8)).trans hx168_8
    have HR168_2 := qas hi168_2
    have HC168_2 := qas hl168_2
    clear hi168_2 hl168_2
    replace p168 := eq_true p168
    replace q168 := eq_true q168
    have p169 : 0 ≤ ((ji12) : Int) := qde (by first | (with_reducible assumption) | assumption)
    have q169 : (ji12) < (l0_0.length : Int) := qde (by first | (with_reducible assumption) | assumption)
    obtain ⟨ad169, A169_2, c169_2, e169, hx169_0, hx169_1, hx169_2, hx169_3, hx169_4, hx169_5, hx169_6, hx169_7, hx169_8, hl169_2, hi169_2⟩ := at_T39 HR0_0.out (ji12) p169 q169
    have hw169_8 := hx169_8
    have hw169_7 := hx169_7
    have hw169_6 := hx169_6
    have hw169_5 := hx169_5
    have hw169_4 := hx169_4
    have hw169_3 := hx169_3
    have hw169_2 := hx169_2
    have hw169_1 := hx169_1
    have hw169_0 := hx169_0
    obtain rfl : ad166 = ad169 := (by injection e169)
    replace hx169_0 := (HB.out.cell (qbl w _ hx169_0)).trans hx169_0
    replace hx169_1 := (HB.out.cell (qbl w _ hx169_1)).trans hx169_1
    replace hx169_2 := (HB.out.cell (qbl w _ hx169_2)).trans hx169_2
    replace hx169_3 := (HB.out.cell (qbl w _ hx169_3)).trans hx169_3
    replace hx169_4 := (HB.out.cell (qbl w _ hx169_4)).trans hx169_4
    replace hx169_5 := (HB.out.cell (qbl w _ hx169_5)).trans hx169_5
    replace hx169_6 := (HB.out.cell (qbl w _ hx169_6)).trans hx169_6
    replace hx169_7 := (HB.out.cell (qbl w _ hx169_7)).trans hx169_7
    replace hx169_8 := (HB.out.cell (qbl w _ hx169_8)).trans hx169_8
    have HR169_2 := qas hi169_2
    have HC169_2 := qas hl169_2
    clear hi169_2 hl169_2
    replace p169 := eq_true p169
    replace q169 := eq_true q169
    refine start_ (n := 27) (S := fun w' => w'.cell? ⟨gb165, 0, none⟩ = some (.slice (some ad166) l0_0.length c0_0) ∧ w'.cell? (ad166.add ((x3_1).toNat * 9)) = some (.string ((rd_T39 l0_0 x3_1).f0)) ∧ w'.cell? ⟨(ad166.add ((x3_1).toNat * 9)).block, (ad166.add ((x3_1).toNat * 9)).off + 1, none⟩ = some (.bool ((rd_T39 l0_0 x3_1).f1)) ∧ w'.cell? ⟨(ad166.add ((x3_1).toNat * 9)).block, (ad166.add ((x3_1).toNat * 9)).off + 2, none⟩ = some (.slice A166_2 ((rd_T39 l0_0 x3_1).f2).length c166_2) ∧ w'.cell? ⟨(ad166.add ((x3_1).toNat * 9)).block, (ad166.add ((x3_1).toNat * 9)).off + 3, none⟩ = some (.int .i64 ((rd_T39 l0_0 x3_1).f3)) ∧ w'.cell? ⟨(ad166.add ((x3_1).toNat * 9)).block, (ad166.add ((x3_1).toNat * 9)).off + 4, none⟩ = some (.int .i64 ((rd_T39 l0_0 x3_1).f4)) ∧ w'.cell? ⟨(ad166.add ((x3_1).toNat * 9)).block, (ad166.add ((x3_1).toNat * 9)).off + 5, none⟩ = some (.int .i64 ((rd_T39 l0_0 x3_1).f5)) ∧ w'.cell? ⟨(ad166.add ((x3_1).toNat * 9)).block, (ad166.add ((x3_1).toNat * 9)).off + 6, none⟩ = some (.string ((rd_T39 l0_0 x3_1).f6)) ∧ w'.cell? ⟨(ad166.add ((x3_1).toNat * 9)).block, (ad166.add ((x3_1).toNat * 9)).off + 7, none⟩ = some (.int .i64 ((rd_T39 l0_0 x3_1).f7)) ∧ w'.cell? ⟨(ad166.add ((x3_1).toNat * 9)).block, (ad166.add ((x3_1).toNat * 9)).off + 8, none⟩ = some (.int .i64 ((rd_T39 l0_0 x3_1).f8)) ∧ w'.cell? (ad166.add ((x3_1).toNat * 9)) = some (.string ((rd_T39 l0_0 x3_1).f0)) ∧ w'.cell? ⟨(ad166.add ((x3_1).toNat * 9)).block, (ad166.add ((x3_1).toNat * 9)).off + 1, none⟩ = some (.bool ((rd_T39 l0_0 x3_1).f1)) ∧ w'.cell? ⟨(ad166.add ((x3_1).toNat * 9)).block, (ad166.add ((x3_1).toNat * 9)).off + 2, none⟩ = some (.slice A168_2 ((rd_T39 l0_0 x3_1).f2).length c168_2) ∧ w'.cell? ⟨(ad166.add ((x3_1).toNat * 9)).block, (ad166.add ((x3_1).toNat * 9)).off + 3, none⟩ = some (.int .i64 ((rd_T39 l0_0 x3_1).f3)) ∧ w'.cell? ⟨(ad166.add ((x3_1).toNat * 9)).block, (ad166.add ((x3_1).toNat * 9)).off + 4, none⟩ = some (.int .i64 ((rd_T39 l0_0 x3_1).f4)) ∧ w'.cell? ⟨(ad166.add ((x3_1).toNat * 9)).block, (ad166.add ((x3_1).toNat * 9)).off + 5, none⟩ = some (.int .i64 ((rd_T39 l0_0 x3_1).f5)) ∧ w'.cell? ⟨(ad166.add ((x3_1).toNat * 9)).block, (ad166.add ((x3_1).toNat * 9)).off + 6, none⟩ = some (.string ((rd_T39 l0_0 x3_1).f6)) ∧ w'.cell? ⟨(ad166.add ((x3_1).toNat * 9)).block, (ad166.add ((x3_1).toNat * 9)).off + 7, none⟩ = some (.int .i64 ((rd_T39 l0_0 x3_1).f7)) ∧ w'.cell? ⟨(ad166.add ((x3_1).toNat * 9)).block, (ad166.add ((x3_1).toNat * 9)).off + 8, none⟩ = some (.int .i64 ((rd_T39 l0_0 x3_1).f8)) ∧ w'.cell? (ad166.add (((ji12)).toNat * 9)) = some (.string ((rd_T39 l0_0 (ji12)).f0)) ∧ w'.cell? ⟨(ad166.add (((ji12)).toNat * 9)).block, (ad166.add (((ji12)).toNat * 9)).off + 1, none⟩ = some (.bool ((rd_T39 l0_0 (ji12)).f1)) ∧ w'.cell? ⟨(ad166.add (((ji12)).toNat * 9)).block, (ad166.add (((ji12)).toNat * 9)).off + 2, none⟩ = some (.slice A169_2 ((rd_T39 l0_0 (ji12)).f2).length c169_2) ∧ w'.cell? ⟨(ad166.add (((ji12)).toNat * 9)).block, (ad166.add (((ji12)).toNat * 9)).off + 3, none⟩ = some (.int .i64 ((rd_T39 l0_0 (ji12)).f3)) ∧ w'.cell? ⟨(ad166.add (((ji12)).toNat * 9)).block, (ad166.add (((ji12)).toNat * 9)).off + 4, none⟩ = some (.int .i64 ((rd_T39 l0_0 (ji12)).f4)) ∧ w'.cell? ⟨(ad166.add (((ji12)).toNat * 9)).block, (ad166.add (((ji12)).toNat * 9)).off + 5, none⟩ = some (.int .i64 ((rd_T39 l0_0 (ji12)).f5)) ∧ w'.cell? ⟨(ad166.add (((ji12)).toNat * 9)).block, (ad166.add (((ji12)).toNat * 9)).off + 6, none⟩ = some (.string ((rd_T39 l0_0 (ji12)).f6)) ∧ w'.cell? ⟨(ad166.add (((ji12)).toNat * 9)).block, (ad166.add (((ji12)).toNat * 9)).off + 7, none⟩ = some (.int .i64 ((rd_T39 l0_0 (ji12)).f7)) ∧ w'.cell? ⟨(ad166.add (((ji12)).toNat * 9)).block, (ad166.add (((ji12)).toNat * 9)).off + 8, none⟩ = some (.int .i64 ((rd_T39 l0_0 (ji12)).f8))) (ds := []) #[qf, qf, qf, qf, qf, qf, qf, qf, qf, qf, qf, qf, qf, qf, qf, qf, qf, qf, qf, qf, qf, qf, qf, qf, qf, qf, qf] (by kernel_rfl) rfl rfl ⟨(blk_cell BK165.out 0).trans rfl, ((HB.out.cell (qbl w _ hw166_0)).trans hw166_0), ((HB.out.cell (qbl w _ hw166_1)).trans hw166_1), ((HB.out.cell (qbl w _ hw166_2)).trans hw166_2), ((HB.out.cell (qbl w _ hw166_3)).trans hw166_3), ((HB.out.cell (qbl w _ hw166_4)).trans hw166_4), ((HB.out.cell (qbl w _ hw166_5)).trans hw166_5), ((HB.out.cell (qbl w _ hw166_6)).trans hw166_6), ((HB.out.cell (qbl w _ hw166_7)).trans hw166_7), ((HB.out.cell (qbl w _ hw166_8)).trans hw166_8), ((HB.out.cell (qbl w _ hw168_0)).trans hw168_0), ((HB.out.cell (qbl w _ hw168_1)).trans hw168_1), ((HB.out.cell (qbl w _ hw168_2)).trans hw168_2), ((HB.out.cell (qbl w _ hw168_3)).trans hw168_3), ((HB.out.cell (qbl w _ hw168_4)).trans hw168_4), ((HB.out.cell (qbl w _ hw168_5)).trans hw168_5), ((HB.out.cell (qbl w _ hw168_6)).trans hw168_6), ((HB.out.cell (qbl w _ hw168_7)).trans hw168_7), ((HB.out.cell (qbl w _ hw168_8)).trans hw168_8), ((HB.out.cell (qbl w _ hw169_0)).trans hw169_0), ((HB.out.cell (qbl w _ hw169_1)).trans hw169_1), ((HB.out.cell (qbl w _ hw169_2)).trans hw169_2), ((HB.out.cell (qbl w _ hw169_3)).trans hw169_3), ((HB.out.cell (qbl w _ hw169_4)).trans hw169_4), ((HB.out.cell (qbl w _ hw169_5)).trans hw169_5), ((HB.out.cell (qbl w _ hw169_6)).trans hw169_6), ((HB.out.cell (qbl w _ hw169_7)).trans hw169_7), ((HB.out.cell (qbl w _ hw169_8)).trans hw169_8)⟩ (fun hHeld => ?_); refine with_tabW pr_WriteMay.tab6 pr_WriteMay.bits6 (fun HT_ HW_ => ?_)
    generalize wr.drew = w20 at BK165 HB HR166_2 HR168_2 HR169_2 hx166_0 hx166_1 hx166_2 hx166_3 hx166_4 hx166_5 hx166_6 hx166_7 hx166_8 hx168_0 hx168_1 hx168_2 hx168_3 hx168_4 hx168_5 hx168_6 hx168_7 hx168_8 hx169_0 hx169_1 hx169_2 hx169_3 hx169_4 hx169_5 hx169_6 hx169_7 hx169_8 hHeld ⊢
    refine pure_ (i := 0) (N := some 15) (v := ?_) (a' := ?_) #[qt, qf, qf, qf, qf, qf, qf, qf, qf, qf, qf, qf, qf, qf, qf, qf, qf, qf, qf, qf, qf, qf, qf, qf, qf, qf, qf] rfl rfl (any_of HT_.out (by kernel_rfl)) (fun _ _ _ h => h) (Or.inl ⟨by rfl, ?_⟩) ?_ ?_
    rotate_left
    ·intro w'
     go_simp
     with_reducible rfl
    rotate_left
    ·simp only [Act.put, qsA, qsB, qsC, i64_w, i32_w, qsD, qsE]
     rfl
    refine pure_ (i := 2) (N := some 17) (v := ?_) (a' := ?_) #[qt, qf, qt, qf, qf, qf, qf, qf, qf, qf, qf, qf, qf, qf, qf, qf, qf, qf, qf, qf, qf, qf, qf, qf, qf, qf, qf] rfl rfl (any_of HT_.out (by kernel_rfl)) (fun _ _ _ h => h) (Or.inl ⟨by rfl, ?_⟩) ?_ ?_
    rotate_left
    ·intro w'
     go_simp
     with_reducible rfl
    rotate_left
    ·simp only [Act.put, qsA, qsB, qsC, i64_w, i32_w, qsD, qsE]
     rfl
    refine take_ (i := 1) (N := some 16) (v := ?_) (a' := ?_) #[qt, qt, qt, qf, qf, qf, qf, qf, qf, qf, qf, qf, qf, qf, qf, qf, qf, qf, qf, qf, qf, qf, qf, qf, qf, qf, qf] rfl rfl (take_ofW HT_.out HW_.out (by kernel_rfl)) (fun _ _ _ h => h) (Or.inl ⟨by rfl, ?_⟩) hHeld ?_ ?_
    rotate_left
    ·rintro w' ⟨s0, s1, s2, s3, s4, s5, s6, s7, s8, s9, s10, s11, s12, s13, s14, s15, s16, s17, s18, s19, s20, s21, s22, s23, s24, s25, s26, s27⟩
     go_simp
     with_reducible rfl
    rotate_left
    ·simp only [Act.put, qsA, qsB, qsC, i64_w, i32_w, qsD, qsE]
     rfl
    refine pure_ (i := 3) (N := some 18) (v := ?_) (a' := ?_) #[qt, qt, qt, qt, qf, qf, qf, qf, qf, qf, qf, qf, qf, qf, qf, qf, qf, qf, qf, qf, qf, qf, qf, qf, qf, qf, qf] rfl rfl (any_of HT_.out (by kernel_rfl)) (fun _ _ _ h => h) (Or.inl ⟨by rfl, ?_⟩) ?_ ?_
    rotate_left
    ·intro w'
     go_simp
     with_reducible rfl
    rotate_left
    ·simp only [Act.put, qsA, qsB, qsC, i64_w, i32_w, qsD, qsE]
     rfl
    refine take_ (i := 4) (N := some 19) (v := ?_) (a' := ?_) #[qt, qt, qt, qt, qt, qf, qf, qf, qf, qf, qf, qf, qf, qf, qf, qf, qf, qf, qf, qf, qf, qf, qf, qf, qf, qf, qf] rfl rfl (take_ofW HT_.out HW_.out (by kernel_rfl)) (fun _ _ _ h => h) (Or.inl ⟨by rfl, ?_⟩) hHeld ?_ ?_
    rotate_left
    ·rintro w' ⟨s0, s1, s2, s3, s4, s5, s6, s7, s8, s9, s10, s11, s12, s13, s14, s15, s16, s17, s18, s19, s20, s21, s22, s23, s24, s25, s26, s27⟩
     go_simp
     with_reducible rfl
    rotate_left
    ·simp only [Act.put, qsA, qsB, qsC, i64_w, i32_w, qsD, qsE]
     rfl
    refine one_ (i := 5) (N := some 20) #[qt, qt, qt, qt, qt, qt, qf, qf, qf, qf, qf, qf, qf, qf, qf, qf, qf, qf, qf, qf, qf, qf, qf, qf, qf, qf, qf] rfl rfl (one_of HT_.out (by kernel_rfl)) (by decide) (fun K hK => ?_)
    refine goes_ Tryd.func58 (by kernel_rfl) rfl #[.agg #[.string ((rd_T39 l0_0 x3_1).f0), .bool ((rd_T39 l0_0 x3_1).f1), .slice A166_2 ((rd_T39 l0_0 x3_1).f2).length c166_2, .int .i64 ((rd_T39 l0_0 x3_1).f3), .int .i64 ((rd_T39 l0_0 x3_1).f4), .int .i64 ((rd_T39 l0_0 x3_1).f5), .string ((rd_T39 l0_0 x3_1).f6), .int .i64 ((rd_T39 l0_0 x3_1).f7), .int .i64 ((rd_T39 l0_0 x3_1).f8)]] (by rfl) rfl rfl (by (try simp only [List.map_toArray, List.map_cons, List.map_nil]); first | done | rfl | (simp only [List.length_drop, List.length_take]; rfl)) ?_
    with_reducible refine (pr_heldMay.calls k1 ((rd_T39 l0_0 x3_1).f0) ((rd_T39 l0_0 x3_1).f1) _ _ ((rd_T39 l0_0 x3_1).f2) ((rd_T39 l0_0 x3_1).f3) ((rd_T39 l0_0 x3_1).f4) ((rd_T39 l0_0 x3_1).f5) ((rd_T39 l0_0 x3_1).f6) ((rd_T39 l0_0 x3_1).f7) ((rd_T39 l0_0 x3_1).f8) true _ ?side1 ?side2 A9.out).mono ?_
    (case side1 => repeat (first | exact (Kd.C_below HR166_2.out HB.out) | (with_reducible refine Kd.C_alloc ?_ _) | (with_reducible refine Kd.C_drewN ?_ _) | (with_reducible refine Kd.C_drew ?_)))
    (case side2 => exact HC166_2.out)
    rintro e w21 ⟨rfl, hb⟩
    refine ⟨_, rfl, ?_⟩
    have n0_ := qas (blk_below (g := gb165) (o := .cells #[.slice (some ad166) l0_0.length c0_0] 24 (0, 0)) (by (with_reducible repeat (first | refine qkA ?_ _ | refine qkB ?_ | refine qkC ?_ _)); exact BK165.out) hb)
    have n1_ := qas (below_step (by repeat (first | (with_reducible first | exact HB.out | apply qbA | apply qbB | apply qbC | refine below_set ?_ GE165.out) | exact HB.out)) hb)
    clear BK165
    clear HB
    have BK165 := n0_
    have HB := n1_
    clear n0_ n1_
    (try clear hb)
    (try clear hb2)
    (try clear hk)
    (try clear hi)
    refine hK.out _ _ ⟨(blk_cell BK165.out 0).trans rfl, ((HB.out.cell (qbl w _ hw166_0)).trans hw166_0), ((HB.out.cell (qbl w _ hw166_1)).trans hw166_1), ((HB.out.cell (qbl w _ hw166_2)).trans hw166_2), ((HB.out.cell (qbl w _ hw166_3)).trans hw166_3), ((HB.out.cell (qbl w _ hw166_4)).trans hw166_4), ((HB.out.cell (qbl w _ hw166_5)).trans hw166_5), ((HB.out.cell (qbl w _ hw166_6)).trans hw166_6), ((HB.out.cell (qbl w _ hw166_7)).trans hw166_7), ((HB.out.cell (qbl w _ hw166_8)).trans hw166_8), ((HB.out.cell (qbl w _ hw168_0)).trans hw168_0), ((HB.out.cell (qbl w _ hw168_1)).trans hw168_1), ((HB.out.cell (qbl w _ hw168_2)).trans hw168_2), ((HB.out.cell (qbl w _ hw168_3)).trans hw168_3), ((HB.out.cell (qbl w _ hw168_4)).trans hw168_4), ((HB.out.cell (qbl w _ hw168_5)).trans hw168_5), ((HB.out.cell (qbl w _ hw168_6)).trans hw168_6), ((HB.out.cell (qbl w _ hw168_7)).trans hw168_7), ((HB.out.cell (qbl w _ hw168_8)).trans hw168_8), ((HB.out.cell (qbl w _ hw169_0)).trans hw169_0), ((HB.out.cell (qbl w _ hw169_1)).trans hw169_1), ((HB.out.cell (qbl w _ hw169_2)).trans hw169_2), ((HB.out.cell (qbl w _ hw169_3)).trans hw169_3), ((HB.out.cell (qbl w _ hw169_4)).trans hw169_4), ((HB.out.cell (qbl w _ hw169_5)).trans hw169_5), ((HB.out.cell (qbl w _ hw169_6)).trans hw169_6), ((HB.out.cell (qbl w _ hw169_7)).trans hw169_7), ((HB.out.cell (qbl w _ hw169_8)).trans hw169_8)⟩ (fun hHeld => ?_)
    clear hK K
    refine norm_ (a' := ?_) ?_ ?_
    rotate_left
    ·show Act.put _ (some 20) _ = _
     simp only [Act.put, qsA, qsB, qsC, i64_w, i32_w, qsD, qsE]
     rfl
    refine pure_ (i := 6) (N := some 21) (v := ?_) (a' := ?_) #[qt, qt, qt, qt, qt, qt, qt, qf, qf, qf, qf, qf, qf, qf, qf, qf, qf, qf, qf, qf, qf, qf, qf, qf, qf, qf, qf] rfl rfl (any_of HT_.out (by kernel_rfl)) (fun _ _ _ h => h) (Or.inl ⟨by rfl, ?_⟩) ?_ ?_
    rotate_left
    ·intro w'
     go_simp
     with_reducible rfl
    rotate_left
    ·simp only [Act.put, qsA, qsB, qsC, i64_w, i32_w, qsD, qsE]
     rfl
    refine pure_ (i := 7) (N := some 22) (v := ?_) (a' := ?_) #[qt, qt, qt, qt, qt, qt, qt, qt, qf, qf, qf, qf, qf, qf, qf, qf, qf, qf, qf, qf, qf, qf, qf, qf, qf, qf, qf] rfl rfl (any_of HT_.out (by kernel_rfl)) (fun _ _ _ h => h) (Or.inl ⟨by rfl, ?_⟩) ?_ ?_
    rotate_left
    ·intro w'
     go_simp
     with_reducible rfl
    rotate_left
    ·simp only [Act.put, qsA, qsB, qsC, i64_w, i32_w, qsD, qsE]
     rfl
    refine pure_ (i := 8) (N := some 23) (v := ?_) (a' := ?_) #[qt, qt, qt, qt, qt, qt, qt, qt, qt, qf, qf, qf, qf, qf, qf, qf, qf, qf, qf, qf, qf, qf, qf, qf, qf, qf, qf] rfl rfl (any_of HT_.out (by kernel_rfl)) (fun _ _ _ h => h) (Or.inl ⟨by rfl, ?_⟩) ?_ ?_
    rotate_left
    ·intro w'
     go_simp
     with_reducible rfl
    rotate_left
    ·simp only [Act.put, qsA, qsB, qsC, i64_w, i32_w, qsD, qsE]
     rfl
    refine pure_ (i := 9) (N := some 24) (v := ?_) (a' := ?_) #[qt, qt, qt, qt, qt, qt, qt, qt, qt, qt, qf, qf, qf, qf, qf, qf, qf, qf, qf, qf, qf, qf, qf, qf, qf, qf, qf] rfl rfl (any_of HT_.out (by kernel_rfl)) (fun _ _ _ h => h) (Or.inl ⟨by rfl, ?_⟩) ?_ ?_
    rotate_left
    ·intro w'
     go_simp
     with_reducible rfl
    rotate_left
    ·simp only [Act.put, qsA, qsB, qsC, i64_w, i32_w, qsD, qsE]
     rfl
    refine pure_ (i := 10) (N := some 25) (v := ?_) (a' := ?_) #[qt, qt, qt, qt, qt, qt, qt, qt, qt, qt, qt, qf, qf, qf, qf, qf, qf, qf, qf, qf, qf, qf, qf, qf, qf, qf, qf] rfl rfl (any_of HT_.out (by kernel_rfl)) (fun _ _ _ h => h) (Or.inl ⟨by rfl, ?_⟩) ?_ ?_
    rotate_left
    ·intro w'
     go_simp
     with_reducible rfl
    rotate_left
    ·simp only [Act.put, qsA, qsB, qsC, i64_w, i32_w, qsD, qsE]
     rfl
    refine pure_ (i := 11) (N := some 26) (v := ?_) (a' := ?_) #[qt, qt, qt, qt, qt, qt, qt, qt, qt, qt, qt, qt, qf, qf, qf, qf, qf, qf, qf, qf, qf, qf, qf, qf, qf, qf, qf] rfl rfl (any_of HT_.out (by kernel_rfl)) (fun _ _ _ h => h) (Or.inl ⟨by rfl, ?_⟩) ?_ ?_
    rotate_left
    ·intro w'
     go_simp
     with_reducible rfl
    rotate_left
    ·simp only [Act.put, qsA, qsB, qsC, i64_w, i32_w, qsD, qsE]
     rfl
    refine pure_ (i := 13) (N := some 28) (v := ?_) (a' := ?_) #[qt, qt, qt, qt, qt, qt, qt, qt, qt, qt, qt, qt, qf, qt, qf, qf, qf, qf, qf, qf, qf, qf, qf, qf, qf, qf, qf] rfl rfl (any_of HT_.out (by kernel_rfl)) (fun _ _ _ h => h) (Or.inl ⟨by rfl, ?_⟩) ?_ ?_
    rotate_left
    ·intro w'
     go_simp
     with_reducible rfl
    rotate_left
    ·simp only [Act.put, qsA, qsB, qsC, i64_w, i32_w, qsD, qsE]
     rfl
    refine pure_ (i := 17) (N := some 32) (v := ?_) (a' := ?_) #[qt, qt, qt, qt, qt, qt, qt, qt, qt, qt, qt, qt, qf, qt, qf, qf, qf, qt, qf, qf, qf, qf, qf, qf, qf, qf, qf] rfl rfl (any_of HT_.out (by kernel_rfl)) (fun _ _ _ h => h) (Or.inl ⟨by rfl, ?_⟩) ?_ ?_
    rotate_left
    ·intro w'
     go_simp
     with_reducible rfl
    rotate_left
    ·simp only [Act.put, qsA, qsB, qsC, i64_w, i32_w, qsD, qsE]
     rfl
    refine pure_ (i := 19) (N := some 34) (v := ?_) (a' := ?_) #[qt, qt, qt, qt, qt, qt, qt, qt, qt, qt, qt, qt, qf, qt, qf, qf, qf, qt, qf, qt, qf, qf, qf, qf, qf, qf, qf] rfl rfl (any_of HT_.out (by kernel_rfl)) (fun _ _ _ h => h) (Or.inl ⟨by rfl, ?_⟩) ?_ ?_
    rotate_left
    ·intro w'
     go_simp
     with_reducible rfl
    rotate_left
    ·simp only [Act.put, qsA, qsB, qsC, i64_w, i32_w, qsD, qsE]
     rfl
    refine pure_ (i := 20) (N := some 35) (v := ?_) (a' := ?_) #[qt, qt, qt, qt, qt, qt, qt, qt, qt, qt, qt, qt, qf, qt, qf, qf, qf, qt, qf, qt, qt, qf, qf, qf, qf, qf, qf] rfl rfl (any_of HT_.out (by kernel_rfl)) (fun _ _ _ h => h) (Or.inl ⟨by rfl, ?_⟩) ?_ ?_
    rotate_left
    ·intro w'
     go_simp
     with_reducible rfl
    rotate_left
    ·simp only [Act.put, qsA, qsB, qsC, i64_w, i32_w, qsD, qsE]
     rfl
    refine take_ (i := 12) (N := some 27) (v := ?_) (a' := ?_) #[qt, qt, qt, qt, qt, qt, qt, qt, qt, qt, qt, qt, qt, qt, qf, qf, qf, qt, qf, qt, qt, qf, qf, qf, qf, qf, qf] rfl rfl (take_ofW HT_.out HW_.out (by kernel_rfl)) (fun _ _ _ h => h) (Or.inl ⟨by rfl, ?_⟩) hHeld ?_ ?_
    rotate_left
    ·rintro w' ⟨s0, s1, s2, s3, s4, s5, s6, s7, s8, s9, s10, s11, s12, s13, s14, s15, s16, s17, s18, s19, s20, s21, s22, s23, s24, s25, s26, s27⟩
     go_simp
     with_reducible rfl
    rotate_left
    ·simp only [Act.put, qsA, qsB, qsC, i64_w, i32_w, qsD, qsE]
     rfl
    refine pure_ (i := 14) (N := some 29) (v := ?_) (a' := ?_) #[qt, qt, qt, qt, qt, qt, qt, qt, qt, qt, qt, qt, qt, qt, qt, qf, qf, qt, qf, qt, qt, qf, qf, qf, qf, qf, qf] rfl rfl (any_of HT_.out (by kernel_rfl)) (fun _ _ _ h => h) (Or.inl ⟨by rfl, ?_⟩) ?_ ?_
    rotate_left
    ·intro w'
     go_simp
     with_reducible rfl
    rotate_left
    ·simp only [Act.put, qsA, qsB, qsC, i64_w, i32_w, qsD, qsE]
     rfl
    refine pure_ (i := 15) (N := some 30) (v := ?_) (a' := ?_) #[qt, qt, qt, qt, qt, qt, qt, qt, qt, qt, qt, qt, qt, qt, qt, qt, qf, qt, qf, qt, qt, qf, qf, qf, qf, qf, qf] rfl rfl (any_of HT_.out (by kernel_rfl)) (fun _ _ _ h => h) (Or.inl ⟨by rfl, ?_⟩) ?_ ?_
    rotate_left
    ·intro w'
     go_simp
     with_reducible rfl
    rotate_left
    ·simp only [Act.put, qsA, qsB, qsC, i64_w, i32_w, qsD, qsE]
     rfl
    refine take_ (i := 16) (N := some 31) (v := ?_) (a' := ?_) #[qt, qt, qt, qt, qt, qt, qt, qt, qt, qt, qt, qt, qt, qt, qt, qt, qt, qt, qf, qt, qt, qf, qf, qf, qf, qf, qf] rfl rfl (take_ofW HT_.out HW_.out (by kernel_rfl)) (fun _ _ _ h => h) (Or.inl ⟨by rfl, ?_⟩) hHeld ?_ ?_
    rotate_left
    ·rintro w' ⟨s0, s1, s2, s3, s4, s5, s6, s7, s8, s9, s10, s11, s12, s13, s14, s15, s16, s17, s18, s19, s20, s21, s22, s23, s24, s25, s26, s27⟩
     go_simp
     with_reducible rfl
    rotate_left
    ·simp only [Act.put, qsA, qsB, qsC, i64_w, i32_w, qsD, qsE]
     rfl
    refine take_ (i := 18) (N := some 33) (v := ?_) (a' := ?_) #[qt, qt, qt, qt, qt, qt, qt, qt, qt, qt, qt, qt, qt, qt, qt, qt, qt, qt, qt, qt, qt, qf, qf, qf, qf, qf, qf] rfl rfl (take_ofW HT_.out HW_.out (by kernel_rfl)) (fun _ _ _ h => h) (Or.inl ⟨by rfl, ?_⟩) hHeld ?_ ?_
    rotate_left
    ·rintro w' ⟨s0, s1, s2, s3, s4, s5, s6, s7, s8, s9, s10, s11, s12, s13, s14, s15, s16, s17, s18, s19, s20, s21, s22, s23, s24, s25, s26, s27⟩
     go_simp
     with_reducible rfl
    rotate_left
    ·simp only [Act.put, qsA, qsB, qsC, i64_w, i32_w, qsD, qsE]
     rfl
    refine pure_ (i := 21) (N := some 36) (v := ?_) (a' := ?_) #[qt, qt, qt, qt, qt, qt, qt, qt, qt, qt, qt, qt, qt, qt, qt, qt, qt, qt, qt, qt, qt, qt, qf, qf, qf, qf, qf] rfl rfl (any_of HT_.out (by kernel_rfl)) (fun _ _ _ h => h) (Or.inl ⟨by rfl, ?_⟩) ?_ ?_
    rotate_left
    ·intro w'
     go_simp
     with_reducible rfl
    rotate_left
    ·simp only [Act.put, qsA, qsB, qsC, i64_w, i32_w, qsD, qsE]
     rfl
    refine pure_ (i := 22) (N := some 37) (v := ?_) (a' := ?_) #[qt, qt, qt, qt, qt, qt, qt, qt, qt, qt, qt, qt, qt, qt, qt, qt, qt, qt, qt, qt, qt, qt, qt, qf, qf, qf, qf] rfl rfl (any_of HT_.out (by kernel_rfl)) (fun _ _ _ h => h) (Or.inl ⟨by rfl, ?_⟩) ?_ ?_
    rotate_left
    ·intro w'
     go_simp
     with_reducible rfl
    rotate_left
    ·simp only [Act.put, qsA, qsB, qsC, i64_w, i32_w, qsD, qsE]
     rfl
    refine take_ (i := 23) (N := some 38) (v := ?_) (a' := ?_) #[qt, qt, qt, qt, qt, qt, qt, qt, qt, qt, qt, qt, qt, qt, qt, qt, qt, qt, qt, qt, qt, qt, qt, qt, qf, qf, qf] rfl rfl (take_ofW HT_.out HW_.out (by kernel_rfl)) (fun _ _ _ h => h) (Or.inl ⟨by rfl, ?_⟩) hHeld ?_ ?_
    rotate_left
    ·rintro w' ⟨s0, s1, s2, s3, s4, s5, s6, s7, s8, s9, s10, s11, s12, s13, s14, s15, s16, s17, s18, s19, s20, s21, s22, s23, s24, s25, s26, s27⟩
     go_simp
     with_reducible rfl
    rotate_left
    ·simp only [Act.put, qsA, qsB, qsC, i64_w, i32_w, qsD, qsE]
     rfl
    refine pure_ (i := 24) (N := some 39) (v := ?_) (a' := ?_) #[qt, qt, qt, qt, qt, qt, qt, qt, qt, qt, qt, qt, qt, qt, qt, qt, qt, qt, qt, qt, qt, qt, qt, qt, qt, qf, qf] rfl rfl (any_of HT_.out (by kernel_rfl)) (fun _ _ _ h => h) (Or.inl ⟨by rfl, ?_⟩) ?_ ?_
    rotate_left
    ·intro w'
     go_simp
     with_reducible rfl
    rotate_left
    ·simp only [Act.put, qsA, qsB, qsC, i64_w, i32_w, qsD, qsE]
     rfl
    refine pure_ (i := 25) (N := some 40) (v := ?_) (a' := ?_) #[qt, qt, qt, qt, qt, qt, qt, qt, qt, qt, qt, qt, qt, qt, qt, qt, qt, qt, qt, qt, qt, qt, qt, qt, qt, qt, qf] rfl rfl (any_of HT_.out (by kernel_rfl)) (fun _ _ _ h => h) (Or.inl ⟨by rfl, ?_⟩) ?_ ?_
    rotate_left
    ·intro w'
     go_simp
     with_reducible rfl
    rotate_left
    ·simp only [Act.put, qsA, qsB, qsC, i64_w, i32_w, qsD, qsE]
     rfl
    refine pure_ (i := 26) (N := some 41) (v := ?_) (a' := ?_) #[qt, qt, qt, qt, qt, qt, qt, qt, qt, qt, qt, qt, qt, qt, qt, qt, qt, qt, qt, qt, qt, qt, qt, qt, qt, qt, qt] rfl rfl (any_of HT_.out (by kernel_rfl)) (fun _ _ _ h => h) (Or.inl ⟨by rfl, ?_⟩) ?_ ?_
    rotate_left
    ·intro w'
     go_simp
     with_reducible rfl
    rotate_left
    ·simp only [Act.put, qsA, qsB, qsC, i64_w, i32_w, qsD, qsE]
     rfl
    refine done_ (done_of HT_.out (by kernel_rfl)) ?_
    try go_wp2
    go_ret
    exact ⟨by first | rfl | (simp [errW_none, errW_some] <;> rfl) | (simp only [← hji12]; first | rfl | (simp [errW_none, errW_some] <;> rfl)) | (simp [*, errW_none, errW_some] <;> rfl), by repeat (first | (with_reducible first | exact HB.out | apply qbA | apply qbB | apply qbC | refine below_set ?_ GE165.out) | exact HB.out)⟩
   rw [if_pos c15] at H
   have c15b0 : (Op.bytesLess (((rd_T39 l0_0 (ji12)).f0).toList) (((rd_T39 l0_0 x3_1).f0).toList)) = true := c15
   have c15b0x : (Op.bytesLess (((rd_T39 l0_0 x3_1).f0).toList) (((rd_T39 l0_0 (ji12)).f0).toList) || (((rd_T39 l0_0 x3_1).f0).toList) == (((rd_T39 l0_0 (ji12)).f0).toList)) = !true := Go.Proofs.YtneogampbohfnaaDoorW.Lq.leq_of c15b0
   simp only [Bool.not_true, Bool.not_false] at c15b0x
   clear c15
   have H' := qas H
   clear H
   have hcz16_0 : wr.cell? ⟨gb165, 0, none⟩ = some (.slice A0_0 l0_0.length c0_0) := (blk_cell BK165.out 0).trans rfl
   have hfz16_0 := blk_frozen BK165.out 0
   try go_wp2
   have n0_ := qas (qkB BK165.out)
   have n1_ := qas (qbC HB.out)
   clear BK165
   clear HB
   have BK165 := n0_
   have HB := n1_
   clear n0_ n1_
   have p166 : 0 ≤ (x3_1 : Int) := qde (by first | (with_reducible assumption) | assumption)
   have q166 : x3_1 < (l0_0.length : Int) := qde (by first | (with_reducible assumption) | assumption)
   obtain ⟨ad166, A166_2, c166_2, e166, hx166_0, hx166_1, hx166_2, hx166_3, hx166_4, hx166_5, hx166_6, hx166_7, hx166_8, hl166_2, hi166_2⟩ := at_T39 HR0_0.out x3_1 p166 q166
   have hw166_8 := hx166_8
   have hw166_7 := hx166_7
   have hw166_6 := hx166_6
   have hw166_5 := hx166_5
   have hw166_4 := hx166_4
   have hw166_3 := hx166_3
   have hw166_2 := hx166_2
   have hw166_1 := hx166_1
   have hw166_0 := hx166_0
   cases e166
   replace hx166_0 := (HB.out.cell (qbl w _ hx166_0)).trans hx166_0
   replace hx166_1 := (HB.out.cell (qbl w _ hx166_1)).trans hx166_1
   replace hx166_2 := (HB.out.cell (qbl w _ hx166_2)).trans hx166_2
   replace hx166_3 := (HB.out.cell (qbl w _ hx166_3)).trans hx166_3
   replace hx166_4 := (HB.out.cell (qbl w _ hx166_4)).trans hx166_4
   replace hx166_5 := (HB.out.cell (qbl w _ hx166_5)).trans hx166_5
   replace hx166_6 := (HB.out.cell (qbl w _ hx166_6)).trans hx166_6
   replace hx166_7 := (HB.out.cell (qbl w _ hx166_7)).trans hx166_7
   replace hx166_8 := (HB.out.cell (qbl w _ hx166_8)).trans hx166_8
   have HR166_2 := qas hi166_2
   have HC166_2 := qas hl166_2
   clear hi166_2 hl166_2
   replace p166 := eq_true p166
   replace q166 := eq_true q166
   have p168 : 0 ≤ (x3_1 : Int) := qde (by first | (with_reducible assumption) | assumption)
   have q168 : x3_1 < (l0_0.length : Int) := qde (by first | (with_reducible assumption) | assumption)
   obtain ⟨ad168, A168_2, c168_2, e168, hx168_0, hx168_1, hx168_2, hx168_3, hx168_4, hx168_5, hx168_6, hx168_7, hx168_8, hl168_2, hi168_2⟩ := at_T39 HR0_0.out x3_1 p168 q168
   have hw168_8 := hx168_8
   have hw168_7 := hx168_7
   have hw168_6 := hx168_6
   have hw168_5 := hx168_5
   have hw168_4 := hx168_4
   have hw168_3 := hx168_3
   have hw168_2 := hx168_2
   have hw168_1 := hx168_1
   have hw168_0 := hx168_0
   obtain rfl : ad166 = ad168 := (by injection e168)
   replace hx168_0 := (HB.out.cell (qbl w _ hx168_0)).trans hx168_0
   replace hx168_1 := (HB.out.cell (qbl w _ hx168_1)).trans hx168_1
   replace hx168_2 := (HB.out.cell (qbl w _ hx168_2)).trans hx168_2
   replace hx168_3 := (HB.out.cell (qbl w _ hx168_3)).trans hx168_3
   replace hx168_4 := (HB.out.cell (qbl w _ hx168_4)).trans hx168_4
   replace hx168_5 := (HB.out.cell (qbl w _ hx168_5)).trans hx168_5
   replace hx168_6 := (HB.out.cell (qbl w _ hx168_6)).trans hx168_6
   replace hx168_7 := (HB.out.cell (qbl w _ hx168_7)).trans hx168_7
   replace hx168_8 := (HB.out.cell (qbl w _ hx168_8)).trans hx168_8
   have HR168_2 := qas hi168_2
   have HC168_2 := qas hl168_2
   clear hi168_2 hl168_2
   replace p168 := eq_true p168
   replace q168 := eq_true q168
   have p169 : 0 ≤ ((ji12) : Int) := qde (by first | (with_reducible assumption) | assumption)
   have q169 : (ji12) < (l0_0.length : Int) := qde (by first | (with_reducible assumption) | assumption)
   obtain ⟨ad169, A169_2, c169_2, e169, hx169_0, hx169_1, hx169_2, hx169_3, hx169_4, hx169_5, hx169_6, hx169_7, hx169_8, hl169_2, hi169_2⟩ := at_T39 HR0_0.out (ji12) p169 q169
   have hw169_8 := hx169_8
   have hw169_7 := hx169_7
   have hw169_6 := hx169_6
   have hw169_5 := hx169_5
   have hw169_4 := hx169_4
   have hw169_3 := hx169_3
   have hw169_2 := hx169_2
   have hw169_1 := hx169_1
   have hw169_0 := hx169_0
   obtain rfl : ad166 = ad169 := (by injection e169)
   replace hx169_0 := (HB.out.cell (qbl w _ hx169_0)).trans hx169_0
   replace hx169_1 := (HB.out.cell (qbl w _ hx169_1)).trans hx169_1
   replace hx169_2 := (HB.out.cell (qbl w _ hx169_2)).trans hx169_2
   replace hx169_3 := (HB.out.cell (qbl w _ hx169_3)).trans hx169_3
   replace hx169_4 := (HB.out.cell (qbl w _ hx169_4)).trans hx169_4
   replace hx169_5 := (HB.out.cell (qbl w _ hx169_5)).trans hx169_5
   replace hx169_6 := (HB.out.cell (qbl w _ hx169_6)).trans hx169_6
   replace hx169_7 := (HB.out.cell (qbl w _ hx169_7)).trans hx169_7
   replace hx169_8 := (HB.out.cell (qbl w _ hx169_8)).trans hx169_8
   have HR169_2 := qas hi169_2
   have HC169_2 := qas hl169_2
   clear hi169_2 hl169_2
   replace p169 := eq_true p169
   replace q169 := eq_true q169
   refine start_ (n := 27) (S := fun w' => w'.cell? ⟨gb165, 0, none⟩ = some (.slice (some ad166) l0_0.length c0_0) ∧ w'.cell? (ad166.add ((x3_1).toNat * 9)) = some (.string ((rd_T39 l0_0 x3_1).f0)) ∧ w'.cell? ⟨(ad166.add ((x3_1).toNat * 9)).block, (ad166.add ((x3_1).toNat * 9)).off + 1, none⟩ = some (.bool ((rd_T39 l0_0 x3_1).f1)) ∧ w'.cell? ⟨(ad166.add ((x3_1).toNat * 9)).block, (ad166.add ((x3_1).toNat * 9)).off + 2, none⟩ = some (.slice A166_2 ((rd_T39 l0_0 x3_1).f2).length c166_2) ∧ w'.cell? ⟨(ad166.add ((x3_1).toNat * 9)).block, (ad166.add ((x3_1).toNat * 9)).off + 3, none⟩ = some (.int .i64 ((rd_T39 l0_0 x3_1).f3)) ∧ w'.cell? ⟨(ad166.add ((x3_1).toNat * 9)).block, (ad166.add ((x3_1).toNat * 9)).off + 4, none⟩ = some (.int .i64 ((rd_T39 l0_0 x3_1).f4)) ∧ w'.cell? ⟨(ad166.add ((x3_1).toNat * 9)).block, (ad166.add ((x3_1).toNat * 9)).off + 5, none⟩ = some (.int .i64 ((rd_T39 l0_0 x3_1).f5)) ∧ w'.cell? ⟨(ad166.add ((x3_1).toNat * 9)).block, (ad166.add ((x3_1).toNat * 9)).off + 6, none⟩ = some (.string ((rd_T39 l0_0 x3_1).f6)) ∧ w'.cell? ⟨(ad166.add ((x3_1).toNat * 9)).block, (ad166.add ((x3_1).toNat * 9)).off + 7, none⟩ = some (.int .i64 ((rd_T39 l0_0 x3_1).f7)) ∧ w'.cell? ⟨(ad166.add ((x3_1).toNat * 9)).block, (ad166.add ((x3_1).toNat * 9)).off + 8, none⟩ = some (.int .i64 ((rd_T39 l0_0 x3_1).f8)) ∧ w'.cell? (ad166.add ((x3_1).toNat * 9)) = some (.string ((rd_T39 l0_0 x3_1).f0)) ∧ w'.cell? ⟨(ad166.add ((x3_1).toNat * 9)).block, (ad166.add ((x3_1).toNat * 9)).off + 1, none⟩ = some (.bool ((rd_T39 l0_0 x3_1).f1)) ∧ w'.cell? ⟨(ad166.add ((x3_1).toNat * 9)).block, (ad166.add ((x3_1).toNat * 9)).off + 2, none⟩ = some (.slice A168_2 ((rd_T39 l0_0 x3_1).f2).length c168_2) ∧ w'.cell? ⟨(ad166.add ((x3_1).toNat * 9)).block, (ad166.add ((x3_1).toNat * 9)).off + 3, none⟩ = some (.int .i64 ((rd_T39 l0_0 x3_1).f3)) ∧ w'.cell? ⟨(ad166.add ((x3_1).toNat * 9)).block, (ad166.add ((x3_1).toNat * 9)).off + 4, none⟩ = some (.int .i64 ((rd_T39 l0_0 x3_1).f4)) ∧ w'.cell? ⟨(ad166.add ((x3_1).toNat * 9)).block, (ad166.add ((x3_1).toNat * 9)).off + 5, none⟩ = some (.int .i64 ((rd_T39 l0_0 x3_1).f5)) ∧ w'.cell? ⟨(ad166.add ((x3_1).toNat * 9)).block, (ad166.add ((x3_1).toNat * 9)).off + 6, none⟩ = some (.string ((rd_T39 l0_0 x3_1).f6)) ∧ w'.cell? ⟨(ad166.add ((x3_1).toNat * 9)).block, (ad166.add ((x3_1).toNat * 9)).off + 7, none⟩ = some (.int .i64 ((rd_T39 l0_0 x3_1).f7)) ∧ w'.cell? ⟨(ad166.add ((x3_1).toNat * 9)).block, (ad166.add ((x3_1).toNat * 9)).off + 8, none⟩ = some (.int .i64 ((rd_T39 l0_0 x3_1).f8)) ∧ w'.cell? (ad166.add (((ji12)).toNat * 9)) = some (.string ((rd_T39 l0_0 (ji12)).f0)) ∧ w'.cell? ⟨(ad166.add (((ji12)).toNat * 9)).block, (ad166.add (((ji12)).toNat * 9)).off + 1, none⟩ = some (.bool ((rd_T39 l0_0 (ji12)).f1)) ∧ w'.cell? ⟨(ad166.add (((ji12)).toNat * 9)).block, (ad166.add (((ji12)).toNat * 9)).off + 2, none⟩ = some (.slice A169_2 ((rd_T39 l0_0 (ji12)).f2).length c169_2) ∧ w'.cell? ⟨(ad166.add (((ji12)).toNat * 9)).block, (ad166.add (((ji12)).toNat * 9)).off + 3, none⟩ = some (.int .i64 ((rd_T39 l0_0 (ji12)).f3)) ∧ w'.cell? ⟨(ad166.add (((ji12)).toNat * 9)).block, (ad166.add (((ji12)).toNat * 9)).off + 4, none⟩ = some (.int .i64 ((rd_T39 l0_0 (ji12)).f4)) ∧ w'.cell? ⟨(ad166.add (((ji12)).toNat * 9)).block, (ad166.add (((ji12)).toNat * 9)).off + 5, none⟩ = some (.int .i64 ((rd_T39 l0_0 (ji12)).f5)) ∧ w'.cell? ⟨(ad166.add (((ji12)).toNat * 9)).block, (ad166.add (((ji12)).toNat * 9)).off + 6, none⟩ = some (.string ((rd_T39 l0_0 (ji12)).f6)) ∧ w'.cell? ⟨(ad166.add (((ji12)).toNat * 9)).block, (ad166.add (((ji12)).toNat * 9)).off + 7, none⟩ = some (.int .i64 ((rd_T39 l0_0 (ji12)).f7)) ∧ w'.cell? ⟨(ad166.add (((ji12)).toNat * 9)).block, (ad166.add (((ji12)).toNat * 9)).off + 8, none⟩ = some (.int .i64 ((rd_T39 l0_0 (ji12)).f8))) (ds := []) #[qf, qf, qf, qf, qf, qf, qf, qf, qf, qf, qf, qf, qf, qf, qf, qf, qf, qf, qf, qf, qf, qf, qf, qf, qf, qf, qf] (by kernel_rfl) rfl rfl ⟨(blk_cell BK165.out 0).trans rfl, ((HB.out.cell (qbl w _ hw166_0)).trans hw166_0), ((HB.out.cell (qbl w _ hw166_1)).trans hw166_1), ((HB.out.cell (qbl w _ hw166_2)).trans hw166_2), ((HB.out.cell (qbl w _ hw166_3)).trans hw166_3), ((HB.out.cell (qbl w _ hw166_4)).trans hw166_4), ((HB.out.cell (qbl w _ hw166_5)).trans hw166_5), ((HB.out.cell (qbl w _ hw166_6)).trans hw166_6), ((HB.out.cell (qbl w _ hw166_7)).trans hw166_7), ((HB.out.cell (qbl w _ hw166_8)).trans hw166_8), ((HB.out.cell (qbl w _ hw168_0)).trans hw168_0), ((HB.out.cell (qbl w _ hw168_1)).trans hw168_1), ((HB.out.cell (qbl w _ hw168_2)).trans hw168_2), ((HB.out.cell (qbl w _ hw168_3)).trans hw168_3), ((HB.out.cell (qbl w _ hw168_4)).trans hw168_4), ((HB.out.cell (qbl w _ hw168_5)).trans hw168_5), ((HB.out.cell (qbl w _ hw168_6)).trans hw168_6), ((HB.out.cell (qbl w _ hw168_7)).trans hw168_7), ((HB.out.cell (qbl w _ hw168_8)).trans hw168_8), ((HB.out.cell (qbl w _ hw169_0)).trans hw169_0), ((HB.out.cell (qbl w _ hw169_1)).trans hw169_1), ((HB.out.cell (qbl w _ hw169_2)).trans hw169_2), ((HB.out.cell (qbl w _ hw169_3)).trans hw169_3), ((HB.out.cell (qbl w _ hw169_4)).trans hw169_4), ((HB.out.cell (qbl w _ hw169_5)).trans hw169_5), ((HB.out.cell (qbl w _ hw169_6)).trans hw169_6), ((HB.out.cell (qbl w _ hw169_7)).trans hw169_7), ((HB.out.cell (qbl w _ hw169_8)).trans hw169_8)⟩ (fun hHeld => ?_); refine with_tabW pr_WriteMay.tab6 pr_WriteMay.bits6 (fun HT_ HW_ => ?_)
   generalize wr.drew = w17 at BK165 HB HR166_2 HR168_2 HR169_2 hx166_0 hx166_1 hx166_2 hx166_3 hx166_4 hx166_5 hx166_6 hx166_7 hx166_8 hx168_0 hx168_1 hx168_2 hx168_3 hx168_4 hx168_5 hx168_6 hx168_7 hx168_8 hx169_0 hx169_1 hx169_2 hx169_3 hx169_4 hx169_5 hx169_6 hx169_7 hx169_8 hHeld ⊢
   refine pure_ (i := 0) (N := some 15) (v := ?_) (a' := ?_) #[qt, qf, qf, qf, qf, qf, qf, qf, qf, qf, qf, qf, qf, qf, qf, qf, qf, qf, qf, qf, qf, qf, qf, qf, qf, qf, qf] rfl rfl (any_of HT_.out (by kernel_rfl)) (fun _ _ _ h => h) (Or.inl ⟨by rfl, ?_⟩) ?_ ?_
   rotate_left
   ·intro w'
    go_simp
    with_reducible rfl
   rotate_left
   ·simp only [Act.put, qsA, qsB, qsC, i64_w, i32_w, qsD, qsE]
    rfl
   refine pure_ (i := 2) (N := some 17) (v := ?_) (a' := ?_) #[qt, qf, qt, qf, qf, qf, qf, qf, qf, qf, qf, qf, qf, qf, qf, qf, qf, qf, qf, qf, qf, qf, qf, qf, qf, qf, qf] rfl rfl (any_of HT_.out (by kernel_rfl)) (fun _ _ _ h => h) (Or.inl ⟨by rfl, ?_⟩) ?_ ?_
   rotate_left
   ·intro w'
    go_simp
    with_reducible rfl
   rotate_left
   ·simp only [Act.put, qsA, qsB, qsC, i64_w, i32_w, qsD, qsE]
    rfl
   refine take_ (i := 1) (N := some 16) (v := ?_) (a' := ?_) #[qt, qt, qt, qf, qf, qf, qf, qf, qf, qf, qf, qf, qf, qf, qf, qf, qf, qf, qf, qf, qf, qf, qf, qf, qf, qf, qf] rfl rfl (take_ofW HT_.out HW_.out (by kernel_rfl)) (fun _ _ _ h => h) (Or.inl ⟨by rfl, ?_⟩) hHeld ?_ ?_
   rotate_left
   ·rintro w' ⟨s0, s1, s2, s3, s4, s5, s6, s7, s8, s9, s10, s11, s12, s13, s14, s15, s16, s17, s18, s19, s20, s21, s22, s23, s24, s25, s26, s27⟩
    go_simp
    with_reducible rfl
   rotate_left
   ·simp only [Act.put, qsA, qsB, qsC, i64_w, i32_w, qsD, qsE]
    rfl
   refine pure_ (i := 3) (N := some 18) (v := ?_) (a' := ?_) #[qt, qt, qt, qt, qf, qf, qf, qf, qf, qf, qf, qf, qf, qf, qf, qf, qf, qf, qf, qf, qf, qf, qf, qf, qf, qf, qf] rfl rfl (any_of HT_.out (by kernel_rfl)) (fun _ _ _ h => h) (Or.inl ⟨by rfl, ?_⟩) ?_ ?_
   rotate_left
   ·intro w'
    go_simp
    with_reducible rfl
   rotate_left
   ·simp only [Act.put, qsA, qsB, qsC, i64_w, i32_w, qsD, qsE]
    rfl
   refine take_ (i := 4) (N := some 19) (v := ?_) (a' := ?_) #[qt, qt, qt, qt, qt, qf, qf, qf, qf, qf, qf, qf, qf, qf, qf, qf, qf, qf, qf, qf, qf, qf, qf, qf, qf, qf, qf] rfl rfl (take_ofW HT_.out HW_.out (by kernel_rfl)) (fun _ _ _ h => h) (Or.inl ⟨by rfl, ?_⟩) hHeld ?_ ?_
   rotate_left
   ·rintro w' ⟨s0, s1, s2, s3, s4, s5, s6, s7, s8, s9, s10, s11, s12, s13, s14, s15, s16, s17, s18, s19, s20, s21, s22, s23, s24, s25, s26, s27⟩
    go_simp
    with_reducible rfl
   rotate_left
   ·simp only [Act.put, qsA, qsB, qsC, i64_w, i32_w, qsD, qsE]
    rfl
   refine one_ (i := 5) (N := some 20) #[qt, qt, qt, qt, qt, qt, qf, qf, qf, qf, qf, qf, qf, qf, qf, qf, qf, qf, qf, qf, qf, qf, qf, qf, qf, qf, qf] rfl rfl (one_of HT_.out (by kernel_rfl)) (by decide) (fun K hK => ?_)
   refine goes_ Tryd.func58 (by kernel_rfl) rfl #[.agg #[.string ((rd_T39 l0_0 x3_1).f0), .bool ((rd_T39 l0_0 x3_1).f1), .slice A166_2 ((rd_T39 l0_0 x3_1).f2).length c166_2, .int .i64 ((rd_T39 l0_0 x3_1).f3), .int .i64 ((rd_T39 l0_0 x3_1).f4), .int .i64 ((rd_T39 l0_0 x3_1).f5), .string ((rd_T39 l0_0 x3_1).f6), .int .i64 ((rd_T39 l0_0 x3_1).f7), .int .i64 ((rd_T39 l0_0 x3_1).f8)]] (by rfl) rfl rfl (by (try simp only [List.map_toArray, List.map_cons, List.map_nil]); first | done | rfl | (simp only [List.length_drop, List.length_take]; rfl)) ?_
   with_reducible refine (pr_heldMay.calls k1 ((rd_T39 l0_0 x3_1).f0) ((rd_T39 l0_0 x3_1).f1) _ _ ((rd_T39 l0_0 x3_1).f2) ((rd_T39 l0_0 x3_1).f3) ((rd_T39 l0_0 x3_1).f4) ((rd_T39 l0_0 x3_1).f5) ((rd_T39 l0_0 x3_1).f6) ((rd_T39 l0_0 x3_1).f7) ((rd_T39 l0_0 x3_1).f8) true _ ?side1 ?side2 A9.out).mono ?_
   (case side1 => repeat (first | exact (Kd.C_below HR166_2.out HB.out) | (with_reducible refine Kd.C_alloc ?_ _) | (with_reducible refine Kd.C_drewN ?_ _) | (with_reducible refine Kd.C_drew ?_)))
   (case side2 => exact HC166_2.out)
   rintro e w18 ⟨rfl, hb⟩
   refine ⟨_, rfl, ?_⟩
   have n0_ := qas (blk_below (g := gb165) (o := .cells #[.slice (some ad166) l0_0.length c0_0] 24 (0, 0)) (by (with_reducible repeat (first | refine qkA ?_ _ | refine qkB ?_ | refine qkC ?_ _)); exact BK165.out) hb)
   have n1_ := qas (below_step (by repeat (first | (with_reducible first | exact HB.out | apply qbA | apply qbB | apply qbC | refine below_set ?_ GE165.out) | exact HB.out)) hb)
   clear BK165
   clear HB
   have BK165 := n0_
   have HB := n1_
   clear n0_ n1_
   (try clear hb)
   (try clear hb2)
   (try clear hk)
   (try clear hi)
   refine hK.out _ _ ⟨(blk_cell BK165.out 0).trans rfl, ((HB.out.cell (qbl w _ hw166_0)).trans hw166_0), ((HB.out.cell (qbl w _ hw166_1)).trans hw166_1), ((HB.out.cell (qbl w _ hw166_2)).trans hw166_2), ((HB.out.cell (qbl w _ hw166_3)).trans hw166_3), ((HB.out.cell (qbl w _ hw166_4)).trans hw166_4), ((HB.out.cell (qbl w _ hw166_5)).trans hw166_5), ((HB.out.cell (qbl w _ hw166_6)).trans hw166_6), ((HB.out.cell (qbl w _ hw166_7)).trans hw166_7), ((HB.out.cell (qbl w _ hw166_8)).trans hw166_8), ((HB.out.cell (qbl w _ hw168_0)).trans hw168_0), ((HB.out.cell (qbl w _ hw168_1)).trans hw168_1), ((HB.out.cell (qbl w _ hw168_2)).trans hw168_2), ((HB.out.cell (qbl w _ hw168_3)).trans hw168_3), ((HB.out.cell (qbl w _ hw168_4)).trans hw168_4), ((HB.out.cell (qbl w _ hw168_5)).trans hw168_5), ((HB.out.cell (qbl w _ hw168_6)).trans hw168_6), ((HB.out.cell (qbl w _ hw168_7)).trans hw168_7), ((HB.out.cell (qbl w _ hw168_8)).trans hw168_8), ((HB.out.cell (qbl w _ hw169_0)).trans hw169_0), ((HB.out.cell (qbl w _ hw169_1)).trans hw169_1), ((HB.out.cell (qbl w _ hw169_2)).trans hw169_2), ((HB.out.cell (qbl w _ hw169_3)).trans hw169_3), ((HB.out.cell (qbl w _ hw169_4)).trans hw169_4), ((HB.out.cell (qbl w _ hw169_5)).trans hw169_5), ((HB.out.cell (qbl w _ hw169_6)).trans hw169_6), ((HB.out.cell (qbl w _ hw169_7)).trans hw169_7), ((HB.out.cell (qbl w _ hw169_8)).trans hw169_8)⟩ (fun hHeld => ?_)
   clear hK K
   refine norm_ (a' := ?_) ?_ ?_
   rotate_left
   ·show Act.put _ (some 20) _ = _
    simp only [Act.put, qsA, qsB, qsC, i64_w, i32_w, qsD, qsE]
    rfl
   refine pure_ (i := 6) (N := some 21) (v := ?_) (a' := ?_) #[qt, qt, qt, qt, qt, qt, qt, qf, qf, qf, qf, qf, qf, qf, qf, qf, qf, qf, qf, qf, qf, qf, qf, qf, qf, qf, qf] rfl rfl (any_of HT_.out (by kernel_rfl)) (fun _ _ _ h => h) (Or.inl ⟨by rfl, ?_⟩) ?_ ?_
   rotate_left
   ·intro w'
    go_simp
    with_reducible rfl
   rotate_left
   ·simp only [Act.put, qsA, qsB, qsC, i64_w, i32_w, qsD, qsE]
    rfl
   refine pure_ (i := 7) (N := some 22) (v := ?_) (a' := ?_) #[qt, qt, qt, qt, qt, qt, qt, qt, qf, qf, qf, qf, qf, qf, qf, qf, qf, qf, qf, qf, qf, qf, qf, qf, qf, qf, qf] rfl rfl (any_of HT_.out (by kernel_rfl)) (fun _ _ _ h => h) (Or.inl ⟨by rfl, ?_⟩) ?_ ?_
   rotate_left
   ·intro w'
    go_simp
    with_reducible rfl
   rotate_left
   ·simp only [Act.put, qsA, qsB, qsC, i64_w, i32_w, qsD, qsE]
    rfl
   refine pure_ (i := 8) (N := some 23) (v := ?_) (a' := ?_) #[qt, qt, qt, qt, qt, qt, qt, qt, qt, qf, qf, qf, qf, qf, qf, qf, qf, qf, qf, qf, qf, qf, qf, qf, qf, qf, qf] rfl rfl (any_of HT_.out (by kernel_rfl)) (fun _ _ _ h => h) (Or.inl ⟨by rfl, ?_⟩) ?_ ?_
   rotate_left
   ·intro w'
    go_simp
    with_reducible rfl
   rotate_left
   ·simp only [Act.put, qsA, qsB, qsC, i64_w, i32_w, qsD, qsE]
    rfl
   refine pure_ (i := 9) (N := some 24) (v := ?_) (a' := ?_) #[qt, qt, qt, qt, qt, qt, qt, qt, qt, qt, qf, qf, qf, qf, qf, qf, qf, qf, qf, qf, qf, qf, qf, qf, qf, qf, qf] rfl rfl (any_of HT_.out (by kernel_rfl)) (fun _ _ _ h => h) (Or.inl ⟨by rfl, ?_⟩) ?_ ?_
   rotate_left
   ·intro w'
    go_simp
    with_reducible rfl
   rotate_left
   ·simp only [Act.put, qsA, qsB, qsC, i64_w, i32_w, qsD, qsE]
    rfl
   refine pure_ (i := 10) (N := some 25) (v := ?_) (a' := ?_) #[qt, qt, qt, qt, qt, qt, qt, qt, qt, qt, qt, qf, qf, qf, qf, qf, qf, qf, qf, qf, qf, qf, qf, qf, qf, qf, qf] rfl rfl (any_of HT_.out (by kernel_rfl)) (fun _ _ _ h => h) (Or.inl ⟨by rfl, ?_⟩) ?_ ?_
   rotate_left
   ·intro w'
    go_simp
    with_reducible rfl
   rotate_left
   ·simp only [Act.put, qsA, qsB, qsC, i64_w, i32_w, qsD, qsE]
    rfl
   refine pure_ (i := 11) (N := some 26) (v := ?_) (a' := ?_) #[qt, qt, qt, qt, qt, qt, qt, qt, qt, qt, qt, qt, qf, qf, qf, qf, qf, qf, qf, qf, qf, qf, qf, qf, qf, qf, qf] rfl rfl (any_of HT_.out (by kernel_rfl)) (fun _ _ _ h => h) (Or.inl ⟨by rfl, ?_⟩) ?_ ?_
   rotate_left
   ·intro w'
    go_simp
    with_reducible rfl
   rotate_left
   ·simp only [Act.put, qsA, qsB, qsC, i64_w, i32_w, qsD, qsE]
    rfl
   refine pure_ (i := 13) (N := some 28) (v := ?_) (a' := ?_) #[qt, qt, qt, qt, qt, qt, qt, qt, qt, qt, qt, qt, qf, qt, qf, qf, qf, qf, qf, qf, qf, qf, qf, qf, qf, qf, qf] rfl rfl (any_of HT_.out (by kernel_rfl)) (fun _ _ _ h => h) (Or.inl ⟨by rfl, ?_⟩) ?_ ?_
   rotate_left
   ·intro w'
    go_simp
    with_reducible rfl
   rotate_left
   ·simp only [Act.put, qsA, qsB, qsC, i64_w, i32_w, qsD, qsE]
    rfl
   refine pure_ (i := 17) (N := some 32) (v := ?_) (a' := ?_) #[qt, qt, qt, qt, qt, qt, qt, qt, qt, qt, qt, qt, qf, qt, qf, qf, qf, qt, qf, qf, qf, qf, qf, qf, qf, qf, qf] rfl rfl (any_of HT_.out (by kernel_rfl)) (fun _ _ _ h => h) (Or.inl ⟨by rfl, ?_⟩) ?_ ?_
   rotate_left
   ·intro w'
    go_simp
    with_reducible rfl
   rotate_left
   ·simp only [Act.put, qsA, qsB, qsC, i64_w, i32_w, qsD, qsE]
    rfl
   refine pure_ (i := 19) (N := some 34) (v := ?_) (a' := ?_) #[qt, qt, qt, qt, qt, qt, qt, qt, qt, qt, qt, qt, qf, qt, qf, qf, qf, qt, qf, qt, qf, qf, qf, qf, qf, qf, qf] rfl rfl (any_of HT_.out (by kernel_rfl)) (fun _ _ _ h => h) (Or.inl ⟨by rfl, ?_⟩) ?_ ?_
   rotate_left
   ·intro w'
    go_simp
    with_reducible rfl
   rotate_left
   ·simp only [Act.put, qsA, qsB, qsC, i64_w, i32_w, qsD, qsE]
    rfl
   refine pure_ (i := 20) (N := some 35) (v := ?_) (a' := ?_) #[qt, qt, qt, qt, qt, qt, qt, qt, qt, qt, qt, qt, qf, qt, qf, qf, qf, qt, qf, qt, qt, qf, qf, qf, qf, qf, qf] rfl rfl (any_of HT_.out (by kernel_rfl)) (fun _ _ _ h => h) (Or.inl ⟨by rfl, ?_⟩) ?_ ?_
   rotate_left
   ·intro w'
    go_simp
    with_reducible rfl
   rotate_left
   ·simp only [Act.put, qsA, qsB, qsC, i64_w, i32_w, qsD, qsE]
    rfl
   refine take_ (i := 12) (N := some 27) (v := ?_) (a' := ?_) #[qt, qt, qt, qt, qt, qt, qt, qt, qt, qt, qt, qt, qt, qt, qf, qf, qf, qt, qf, qt, qt, qf, qf, qf, qf, qf, qf] rfl rfl (take_ofW HT_.out HW_.out (by kernel_rfl)) (fun _ _ _ h => h) (Or.inl ⟨by rfl, ?_⟩) hHeld ?_ ?_
   rotate_left
   ·rintro w' ⟨s0, s1, s2, s3, s4, s5, s6, s7, s8, s9, s10, s11, s12, s13, s14, s15, s16, s17, s18, s19, s20, s21, s22, s23, s24, s25, s26, s27⟩
    go_simp
    with_reducible rfl
   rotate_left
   ·simp only [Act.put, qsA, qsB, qsC, i64_w, i32_w, qsD, qsE]
    rfl
   refine pure_ (i := 14) (N := some 29) (v := ?_) (a' := ?_) #[qt, qt, qt, qt, qt, qt, qt, qt, qt, qt, qt, qt, qt, qt, qt, qf, qf, qt, qf, qt, qt, qf, qf, qf, qf, qf, qf] rfl rfl (any_of HT_.out (by kernel_rfl)) (fun _ _ _ h => h) (Or.inl ⟨by rfl, ?_⟩) ?_ ?_
   rotate_left
   ·intro w'
    go_simp
    with_reducible rfl
   rotate_left
   ·simp only [Act.put, qsA, qsB, qsC, i64_w, i32_w, qsD, qsE]
    rfl
   refine pure_ (i := 15) (N := some 30) (v := ?_) (a' := ?_) #[qt, qt, qt, qt, qt, qt, qt, qt, qt, qt, qt, qt, qt, qt, qt, qt, qf, qt, qf, qt, qt, qf, qf, qf, qf, qf, qf] rfl rfl (any_of HT_.out (by kernel_rfl)) (fun _ _ _ h => h) (Or.inl ⟨by rfl, ?_⟩) ?_ ?_
   rotate_left
   ·intro w'
    go_simp
    with_reducible rfl
   rotate_left
   ·simp only [Act.put, qsA, qsB, qsC, i64_w, i32_w, qsD, qsE]
    rfl
   refine take_ (i := 16) (N := some 31) (v := ?_) (a' := ?_) #[qt, qt, qt, qt, qt, qt, qt, qt, qt, qt, qt, qt, qt, qt, qt, qt, qt, qt, qf, qt, qt, qf, qf, qf, qf, qf, qf] rfl rfl (take_ofW HT_.out HW_.out (by kernel_rfl)) (fun _ _ _ h => h) (Or.inl ⟨by rfl, ?_⟩) hHeld ?_ ?_
   rotate_left
   ·rintro w' ⟨s0, s1, s2, s3, s4, s5, s6, s7, s8, s9, s10, s11, s12, s13, s14, s15, s16, s17, s18, s19, s20, s21, s22, s23, s24, s25, s26, s27⟩
    go_simp
    with_reducible rfl
   rotate_left
   ·simp only [Act.put, qsA, qsB, qsC, i64_w, i32_w, qsD, qsE]
    rfl
   refine take_ (i := 18) (N := some 33) (v := ?_) (a' := ?_) #[qt, qt, qt, qt, qt, qt, qt, qt, qt, qt, qt, qt, qt, qt, qt, qt, qt, qt, qt, qt, qt, qf, qf, qf, qf, qf, qf] rfl rfl (take_ofW HT_.out HW_.out (by kernel_rfl)) (fun _ _ _ h => h) (Or.inl ⟨by rfl, ?_⟩) hHeld ?_ ?_
   rotate_left
   ·rintro w' ⟨s0, s1, s2, s3, s4, s5, s6, s7, s8, s9, s10, s11, s12, s13, s14, s15, s16, s17, s18, s19, s20, s21, s22, s23, s24, s25, s26, s27⟩
    go_simp
    with_reducible rfl
   rotate_left
   ·simp only [Act.put, qsA, qsB, qsC, i64_w, i32_w, qsD, qsE]
    rfl
   refine pure_ (i := 21) (N := some 36) (v := ?_) (a' := ?_) #[qt, qt, qt, qt, qt, qt, qt, qt, qt, qt, qt, qt, qt, qt, qt, qt, qt, qt, qt, qt, qt, qt, qf, qf, qf, qf, qf] rfl rfl (any_of HT_.out (by kernel_rfl)) (fun _ _ _ h => h) (Or.inl ⟨by rfl, ?_⟩) ?_ ?_
   rotate_left
   ·intro w'
    go_simp
    with_reducible rfl
   rotate_left
   ·simp only [Act.put, qsA, qsB, qsC, i64_w, i32_w, qsD, qsE]
    rfl
   refine pure_ (i := 22) (N := some 37) (v := ?_) (a' := ?_) #[qt, qt, qt, qt, qt, qt, qt, qt, qt, qt, qt, qt, qt, qt, qt, qt, qt, qt, qt, qt, qt, qt, qt, qf, qf, qf, qf] rfl rfl (any_of HT_.out (by kernel_rfl)) (fun _ _ _ h => h) (Or.inl ⟨by rfl, ?_⟩) ?_ ?_
   rotate_left
   ·intro w'
    go_simp
    with_reducible rfl
   rotate_left
   ·simp only [Act.put, qsA, qsB, qsC, i64_w, i32_w, qsD, qsE]
    rfl
   refine take_ (i := 23) (N := some 38) (v := ?_) (a' := ?_) #[qt, qt, qt, qt, qt, qt, qt, qt, qt, qt, qt, qt, qt, qt, qt, qt, qt, qt, qt, qt, qt, qt, qt, qt, qf, qf, qf] rfl rfl (take_ofW HT_.out HW_.out (by kernel_rfl)) (fun _ _ _ h => h) (Or.inl ⟨by rfl, ?_⟩) hHeld ?_ ?_
   rotate_left
   ·rintro w' ⟨s0, s1, s2, s3, s4, s5, s6, s7, s8, s9, s10, s11, s12, s13, s14, s15, s16, s17, s18, s19, s20, s21, s22, s23, s24, s25, s26, s27⟩
    go_simp
    with_reducible rfl
   rotate_left
   ·simp only [Act.put, qsA, qsB, qsC, i64_w, i32_w, qsD, qsE]
    rfl
   refine pure_ (i := 24) (N := some 39) (v := ?_) (a' := ?_) #[qt, qt, qt, qt, qt, qt, qt, qt, qt, qt, qt, qt, qt, qt, qt, qt, qt, qt, qt, qt, qt, qt, qt, qt, qt, qf, qf] rfl rfl (any_of HT_.out (by kernel_rfl)) (fun _ _ _ h => h) (Or.inl ⟨by rfl, ?_⟩) ?_ ?_
   rotate_left
   ·intro w'
    go_simp
    with_reducible rfl
   rotate_left
   ·simp only [Act.put, qsA, qsB, qsC, i64_w, i32_w, qsD, qsE]
    rfl
   refine pure_ (i := 25) (N := some 40) (v := ?_) (a' := ?_) #[qt, qt, qt, qt, qt, qt, qt, qt, qt, qt, qt, qt, qt, qt, qt, qt, qt, qt, qt, qt, qt, qt, qt, qt, qt, qt, qf] rfl rfl (any_of HT_.out (by kernel_rfl)) (fun _ _ _ h => h) (Or.inl ⟨by rfl, ?_⟩) ?_ ?_
   rotate_left
   ·intro w'
    go_simp
    with_reducible rfl
   rotate_left
   ·simp only [Act.put, qsA, qsB, qsC, i64_w, i32_w, qsD, qsE]
    rfl
   refine pure_ (i := 26) (N := some 41) (v := ?_) (a' := ?_) #[qt, qt, qt, qt, qt, qt, qt, qt, qt, qt, qt, qt, qt, qt, qt, qt, qt, qt, qt, qt, qt, qt, qt, qt, qt, qt, qt] rfl rfl (any_of HT_.out (by kernel_rfl)) (fun _ _ _ h => h) (Or.inl ⟨by rfl, ?_⟩) ?_ ?_
   rotate_left
   ·intro w'
    go_simp
    with_reducible rfl
   rotate_left
   ·simp only [Act.put, qsA, qsB, qsC, i64_w, i32_w, qsD, qsE]
    rfl
   refine done_ (done_of HT_.out (by kernel_rfl)) ?_
   try go_wp2
   go_roundg k1
   case measure => have := HK1.out; omega
   case rel => exact ⟨(wrap64 (x3_1 + 1)), (by first | rfl | (simp; done) | (simp [*]; done)), H', ⟨by have := HK1.out; omega⟩, ⟨by (with_reducible repeat (first | refine qkA ?_ _ | refine qkB ?_ | refine qkC ?_ _)); exact BK165.out⟩, ⟨by repeat (first | (with_reducible first | exact HB.out | apply qbA | apply qbB | apply qbC | refine below_set ?_ GE165.out) | exact HB.out)⟩⟩

attribute [local go_sem] max2_int min2_int max_two min_two max_three min_three max_four min_four   -- for this text's walks alone
set_option linter.unusedVariables false
set_option linter.unusedSimpArgs false

/-! ### pr_Size: function 21 -/
def pr_Size.l0 : Nat → Int → Int → List (S39) → Option (Int)
 | 0, _, _, _ => none
 | k + 1, x3, x4, x171000 => if x4 < (x171000.length : Int) then (if 0 ≤ x4 then (pr_Size.l0 k (wrap64 ((wrap64 ((wrap64 ((wrap64 (x3 + 76)) + (wrap64 (2 * (((rd_T39 x171000 x4).f0).size : Int))))) + 52)) + (((rd_T39 x171000 x4).f6).size : Int))) (wrap64 (x4 + 1)) x171000) else (none)) else (some x3)
def pr_Size.f (k : Nat) (l0_0 : List (S39)) : Option (Int) := (pr_WriteMay.f k l0_0).bind fun t171 => (if t171 = true then (pr_Size.l0 k 22 0 l0_0) else (some 0))
theorem pr_Size.mono_l : ∀ k, (∀ y0 y1 y2, LeO (pr_Size.l0 k y0 y1 y2) (pr_Size.l0 (k + 1) y0 y1 y2))
 | 0 => fun _ _ _ r h => by simp [pr_Size.l0] at h
 | k + 1 => by
  have ih0 := pr_Size.mono_l k
  ·intro y0 y1 y2
   unfold pr_Size.l0
   repeat' first
   | (with_reducible exact ih0 _ _ _)
   | (with_reducible exact pr_WriteMay.mono _ _)
   | (with_reducible exact LeO.refl _)
   | (with_reducible exact LeO.none _)
   | (with_reducible refine LeO.ite ?_ ?_)
   | (with_reducible refine LeO.bind ?_ (fun _ => ?_))
   | exact ih0 _ _ _
   | exact pr_WriteMay.mono _ _
   | exact LeO.none _
   | refine LeO.ite ?_ ?_
   | refine LeO.bind ?_ (fun _ => ?_)
theorem pr_Size.mono : ∀ a0 k, LeO (pr_Size.f k a0) (pr_Size.f (k + 1) a0) := by
 intro a0 k
 have ih0 := pr_Size.mono_l k
 unfold pr_Size.f
 repeat' first
   | (with_reducible exact ih0 _ _ _)
   | (with_reducible exact pr_WriteMay.mono _ _)
   | (with_reducible exact LeO.refl _)
   | (with_reducible exact LeO.none _)
   | (with_reducible refine LeO.ite ?_ ?_)
   | (with_reducible refine LeO.bind ?_ (fun _ => ?_))
   | exact ih0 _ _ _
   | exact pr_WriteMay.mono _ _
   | exact LeO.none _
   | refine LeO.ite ?_ ?_
   | refine LeO.bind ?_ (fun _ => ?_)
set_option maxHeartbeats 8000000 in
set_option maxRecDepth 100000 in
theorem pr_Size.calls (k : Nat) (A0_0 : Option Addr) (c0_0 : Nat) (l0_0 : List (S39)) (r : Int) (w : World) (hr0_0 : Kd.C k39 w A0_0 l0_0.length l0_0) (hc0_0 : l0_0.length ≤ c0_0) (h : pr_Size.f k l0_0 = some r) :
  Calls Tryd.prog 21 #[.agg #[.slice A0_0 l0_0.length c0_0]] w fun e w' => e = .returned (.int .i64 r) ∧ Below w.heap.size w w' := by
 have hu24 := Tryd.underlying24
 have HR0_0 := qas hr0_0
 have HC0_0 := qas hc0_0
 clear hr0_0 hc0_0
 have HB := qas (Below.refl w.heap.size w)
 have H : ((pr_WriteMay.f k l0_0).bind fun t171 => (if t171 = true then (pr_Size.l0 k 22 0 l0_0) else (some 0))) = some r := h
 clear h
 replace H := Option.bind_eq_some_iff.mp H
 obtain ⟨t171, A20, H⟩ := H
 replace H : (if t171 = true then (pr_Size.l0 k 22 0 l0_0) else (some 0)) = some r := H
 have A2 := qas A20
 clear A20
 by_cases c3 : t171 = true
 rotate_left
 ·replace c3 := Bool.eq_false_iff.mpr c3
  subst c3
  have H1 : (some 0) = some r := by rw [if_neg (show ¬ (false = true) by decide)] at H; exact H
  clear H
  have H := H1
  clear H1
  obtain rfl := Option.some.inj H
  go_enter Tryd.func21, Tryd.ntmps21
  go_wp2_with (first | ((with_reducible refine gate_dst (N := 1) rfl ?_); refine box_event ?hg (N := 1) ?hd (cs := #[.slice A0_0 l0_0.length c0_0]) (t := 24) ?hr ?_; (case hd => rfl); (case hg => rfl); (case hr => first | (go_simp; done) | (go_simp; rfl)); intro gb170 hg w11 hbox hb; have n0_ := qas (below_step (by repeat (first | (with_reducible first | exact HB.out | apply qbA | apply qbB | apply qbC) | exact HB.out)) hb); have n1_ := qas (hbox); have n2_ := qas ((by rw [hg]; exact (below_size (by repeat (first | (with_reducible first | exact HB.out | apply qbA | apply qbB | apply qbC) | exact HB.out))) : w.heap.size ≤ gb170)); have n3_ := qas ((by rw [hg]; exact (below_size (by repeat (first | (with_reducible first | exact HB.out | apply qbA | apply qbB | apply qbC) | exact HB.out))) : w.heap.size ≤ gb170)); clear HB; have HB := n0_; have BK170 := n1_; have GW170 := n2_; have GE170 := n3_; clear n0_ n1_ n2_ n3_; clear hb hbox hg; have hcz12_0 : w11.cell? ⟨gb170, 0, none⟩ = some (.slice A0_0 l0_0.length c0_0) := (blk_cell BK170.out 0).trans rfl; have hfz12_0 := blk_frozen BK170.out 0) | (go_at_call 23; (with_reducible refine (pr_WriteMay.calls k _ _ l0_0 false _ ?side1 ?side2 A2.out).mono ?_); (case side1 => repeat (first | exact (Kd.C_below HR0_0.out HB.out) | (with_reducible refine Kd.C_alloc ?_ _) | (with_reducible refine Kd.C_drewN ?_ _) | (with_reducible refine Kd.C_drew ?_))); (case side2 => exact HC0_0.out); rintro e w13 ⟨rfl, hb⟩; have n0_ := qas (blk_below (g := gb170) (o := .cells #[.slice A0_0 l0_0.length c0_0] 24 (0, 0)) (by (with_reducible repeat (first | refine qkA ?_ _ | refine qkB ?_ | refine qkC ?_ _)); exact BK170.out) hb); have n1_ := qas (below_step (by repeat (first | (with_reducible first | exact HB.out | apply qbA | apply qbB | apply qbC | refine below_set ?_ GE170.out) | exact HB.out)) hb); clear BK170; clear HB; have BK170 := n0_; have HB := n1_; clear n0_ n1_; (try clear hb); (try clear hb2); (try clear hk); (try clear hi)))
  repeat (go_quiet (first | ((with_reducible refine gate_dst (N := 1) rfl ?_); refine box_event ?hg (N := 1) ?hd (cs := #[.slice A0_0 l0_0.length c0_0]) (t := 24) ?hr ?_; (case hd => rfl); (case hg => rfl); (case hr => first | (go_simp; done) | (go_simp; rfl)); intro gb170 hg w11 hbox hb; have n0_ := qas (below_step (by repeat (first | (with_reducible first | exact HB.out | apply qbA | apply qbB | apply qbC) | exact HB.out)) hb); have n1_ := qas (hbox); have n2_ := qas ((by rw [hg]; exact (below_size (by repeat (first | (with_reducible first | exact HB.out | apply qbA | apply qbB | apply qbC) | exact HB.out))) : w.heap.size ≤ gb170)); have n3_ := qas ((by rw [hg]; exact (below_size (by repeat (first | (with_reducible first | exact HB.out | apply qbA | apply qbB | apply qbC) | exact HB.out))) : w.heap.size ≤ gb170)); clear HB; have HB := n0_; have BK170 := n1_; have GW170 := n2_; have GE170 := n3_; clear n0_ n1_ n2_ n3_; clear hb hbox hg; have hcz12_0 : w11.cell? ⟨gb170, 0, none⟩ = some (.slice A0_0 l0_0.length c0_0) := (blk_cell BK170.out 0).trans rfl; have hfz12_0 := blk_frozen BK170.out 0) | (go_at_call 23; (with_reducible refine (pr_WriteMay.calls k _ _ l0_0 false _ ?side1 ?side2 A2.out).mono ?_); (case side1 => repeat (first | exact (Kd.C_below HR0_0.out HB.out) | (with_reducible refine Kd.C_alloc ?_ _) | (with_reducible refine Kd.C_drewN ?_ _) | (with_reducible refine Kd.C_drew ?_))); (case side2 => exact HC0_0.out); rintro e w13 ⟨rfl, hb⟩; have n0_ := qas (blk_below (g := gb170) (o := .cells #[.slice A0_0 l0_0.length c0_0] 24 (0, 0)) (by (with_reducible repeat (first | refine qkA ?_ _ | refine qkB ?_ | refine qkC ?_ _)); exact BK170.out) hb); have n1_ := qas (below_step (by repeat (first | (with_reducible first | exact HB.out | apply qbA | apply qbB | apply qbC | refine below_set ?_ GE170.out) | exact HB.out)) hb); clear BK170; clear HB; have BK170 := n0_; have HB := n1_; clear n0_ n1_; (try clear hb); (try clear hb2); (try clear hk); (try clear hi))); try go_wp2_with (first | ((with_reducible refine gate_dst (N := 1) rfl ?_); refine box_event ?hg (N := 1) ?hd (cs := #[.slice A0_0 l0_0.length c0_0]) (t := 24) ?hr ?_; (case hd => rfl); (case hg => rfl); (case hr => first | (go_simp; done) | (go_simp; rfl)); intro gb170 hg w11 hbox hb; have n0_ := qas (below_step (by repeat (first | (with_reducible first | exact HB.out | apply qbA | apply qbB | apply qbC) | exact HB.out)) hb); have n1_ := qas (hbox); have n2_ := qas ((by rw [hg]; exact (below_size (by repeat (first | (with_reducible first | exact HB.out | apply qbA | apply qbB | apply qbC) | exact HB.out))) : w.heap.size ≤ gb170)); have n3_ := qas ((by rw [hg]; exact (below_size (by repeat (first | (with_reducible first | exact HB.out | apply qbA | apply qbB | apply qbC) | exact HB.out))) : w.heap.size ≤ gb170)); clear HB; have HB := n0_; have BK170 := n1_; have GW170 := n2_; have GE170 := n3_; clear n0_ n1_ n2_ n3_; clear hb hbox hg; have hcz12_0 : w11.cell? ⟨gb170, 0, none⟩ = some (.slice A0_0 l0_0.length c0_0) := (blk_cell BK170.out 0).trans rfl; have hfz12_0 := blk_frozen BK170.out 0) | (go_at_call 23; (with_reducible refine (pr_WriteMay.calls k _ _ l0_0 false _ ?side1 ?side2 A2.out).mono ?_); (case side1 => repeat (first | exact (Kd.C_below HR0_0.out HB.out) | (with_reducible refine Kd.C_alloc ?_ _) | (with_reducible refine Kd.C_drewN ?_ _) | (with_reducible refine Kd.C_drew ?_))); (case side2 => exact HC0_0.out); rintro e w13 ⟨rfl, hb⟩; have n0_ := qas (blk_below (g := gb170) (o := .cells #[.slice A0_0 l0_0.length c0_0] 24 (0, 0)) (by (with_reducible repeat (first | refine qkA ?_ _ | refine qkB ?_ | refine qkC ?_ _)); exact BK170.out) hb); have n1_ := qas (below_step (by repeat (first | (with_reducible first | exact HB.out | apply qbA | apply qbB | apply qbC | refine below_set ?_ GE170.out) | exact HB.out)) hb); clear BK170; clear HB; have BK170 := n0_; have HB := n1_; clear n0_ n1_; (try clear hb); (try clear hb2); (try clear hk); (try clear hi))))
  go_ret
  exact ⟨by first | rfl | (simp [errW_none, errW_some] <;> rfl) | (simp [*, errW_none, errW_some] <;> rfl), by repeat (first | (with_reducible first | exact HB.out | apply qbA | apply qbB | apply qbC | refine below_set ?_ GE170.out) | exact HB.out)⟩
 subst c3
 have H1 : (pr_Size.l0 k 22 0 l0_0) = some r := by rw [if_pos rfl] at H; exact H
 clear H
 have H := H1
 clear H1
 have H' := qas H
 clear H
 go_enter Tryd.func21, Tryd.ntmps21
 go_wp2_with (first | ((with_reducible refine gate_dst (N := 1) rfl ?_); refine box_event ?hg (N := 1) ?hd (cs := #[.slice A0_0 l0_0.length c0_0]) (t := 24) ?hr ?_; (case hd => rfl); (case hg => rfl); (case hr => first | (go_simp; done) | (go_simp; rfl)); intro gb170 hg w4 hbox hb; have n0_ := qas (below_step (by repeat (first | (with_reducible first | exact HB.out | apply qbA | apply qbB | apply qbC) | exact HB.out)) hb); have n1_ := qas (hbox); have n2_ := qas ((by rw [hg]; exact (below_size (by repeat (first | (with_reducible first | exact HB.out | apply qbA | apply qbB | apply qbC) | exact HB.out))) : w.heap.size ≤ gb170)); have n3_ := qas ((by rw [hg]; exact (below_size (by repeat (first | (with_reducible first | exact HB.out | apply qbA | apply qbB | apply qbC) | exact HB.out))) : w.heap.size ≤ gb170)); clear HB; have HB := n0_; have BK170 := n1_; have GW170 := n2_; have GE170 := n3_; clear n0_ n1_ n2_ n3_; clear hb hbox hg; have hcz5_0 : w4.cell? ⟨gb170, 0, none⟩ = some (.slice A0_0 l0_0.length c0_0) := (blk_cell BK170.out 0).trans rfl; have hfz5_0 := blk_frozen BK170.out 0) | (go_at_call 23; (with_reducible refine (pr_WriteMay.calls k _ _ l0_0 true _ ?side1 ?side2 A2.out).mono ?_); (case side1 => repeat (first | exact (Kd.C_below HR0_0.out HB.out) | (with_reducible refine Kd.C_alloc ?_ _) | (with_reducible refine Kd.C_drewN ?_ _) | (with_reducible refine Kd.C_drew ?_))); (case side2 => exact HC0_0.out); rintro e w6 ⟨rfl, hb⟩; have n0_ := qas (blk_below (g := gb170) (o := .cells #[.slice A0_0 l0_0.length c0_0] 24 (0, 0)) (by (with_reducible repeat (first | refine qkA ?_ _ | refine qkB ?_ | refine qkC ?_ _)); exact BK170.out) hb); have n1_ := qas (below_step (by repeat (first | (with_reducible first | exact HB.out | apply qbA | apply qbB | apply qbC | refine below_set ?_ GE170.out) | exact HB.out)) hb); clear BK170; clear HB; have BK170 := n0_; have HB := n1_; clear n0_ n1_; (try clear hb); (try clear hb2); (try clear hk); (try clear hi)))
 repeat (go_quiet (first | ((with_reducible refine gate_dst (N := 1) rfl ?_); refine box_event ?hg (N := 1) ?hd (cs := #[.slice A0_0 l0_0.length c0_0]) (t := 24) ?hr ?_; (case hd => rfl); (case hg => rfl); (case hr => first | (go_simp; done) | (go_simp; rfl)); intro gb170 hg w4 hbox hb; have n0_ := qas (below_step (by repeat (first | (with_reducible first | exact HB.out | apply qbA | apply qbB | apply qbC) | exact HB.out)) hb); have n1_ := qas (hbox); have n2_ := qas ((by rw [hg]; exact (below_size (by repeat (first | (with_reducible first | exact HB.out | apply qbA | apply qbB | apply qbC) | exact HB.out))) : w.heap.size ≤ gb170)); have n3_ := qas ((by rw [hg]; exact (below_size (by repeat (first | (with_reducible first | exact HB.out | apply qbA | apply qbB | apply qbC) | exact HB.out))) : w.heap.size ≤ gb170)); clear HB; have HB := n0_; have BK170 := n1_; have GW170 := n2_; have GE170 := n3_; clear n0_ n1_ n2_ n3_; clear hb hbox hg; have hcz5_0 : w4.cell? ⟨gb170, 0, none⟩ = some (.slice A0_0 l0_0.length c0_0) := (blk_cell BK170.out 0).trans rfl; have hfz5_0 := blk_frozen BK170.out 0) | (go_at_call 23; (with_reducible refine (pr_WriteMay.calls k _ _ l0_0 true _ ?side1 ?side2 A2.out).mono ?_); (case side1 => repeat (first | exact (Kd.C_below HR0_0.out HB.out) | (with_reducible refine Kd.C_alloc ?_ _) | (with_reducible refine Kd.C_drewN ?_ _) | (with_reducible refine Kd.C_drew ?_))); (case side2 => exact HC0_0.out); rintro e w6 ⟨rfl, hb⟩; have n0_ := qas (blk_below (g := gb170) (o := .cells #[.slice A0_0 l0_0.length c0_0] 24 (0, 0)) (by (with_reducible repeat (first | refine qkA ?_ _ | refine qkB ?_ | refine qkC ?_ _)); exact BK170.out) hb); have n1_ := qas (below_step (by repeat (first | (with_reducible first | exact HB.out | apply qbA | apply qbB | apply qbC | refine below_set ?_ GE170.out) | exact HB.out)) hb); clear BK170; clear HB; have BK170 := n0_; have HB := n1_; clear n0_ n1_; (try clear hb); (try clear hb2); (try clear hk); (try clear hi))); try go_wp2_with (first | ((with_reducible refine gate_dst (N := 1) rfl ?_); refine box_event ?hg (N := 1) ?hd (cs := #[.slice A0_0 l0_0.length c0_0]) (t := 24) ?hr ?_; (case hd => rfl); (case hg => rfl); (case hr => first | (go_simp; done) | (go_simp; rfl)); intro gb170 hg w4 hbox hb; have n0_ := qas (below_step (by repeat (first | (with_reducible first | exact HB.out | apply qbA | apply qbB | apply qbC) | exact HB.out)) hb); have n1_ := qas (hbox); have n2_ := qas ((by rw [hg]; exact (below_size (by repeat (first | (with_reducible first | exact HB.out | apply qbA | apply qbB | apply qbC) | exact HB.out))) : w.heap.size ≤ gb170)); have n3_ := qas ((by rw [hg]; exact (below_size (by repeat (first | (with_reducible first | exact HB.out | apply qbA | apply qbB | apply qbC) | exact HB.out))) : w.heap.size ≤ gb170)); clear HB; have HB := n0_; have BK170 := n1_; have GW170 := n2_; have GE170 := n3_; clear n0_ n1_ n2_ n3_; clear hb hbox hg; have hcz5_0 : w4.cell? ⟨gb170, 0, none⟩ = some (.slice A0_0 l0_0.length c0_0) := (blk_cell BK170.out 0).trans rfl; have hfz5_0 := blk_frozen BK170.out 0) | (go_at_call 23; (with_reducible refine (pr_WriteMay.calls k _ _ l0_0 true _ ?side1 ?side2 A2.out).mono ?_); (case side1 => repeat (first | exact (Kd.C_below HR0_0.out HB.out) | (with_reducible refine Kd.C_alloc ?_ _) | (with_reducible refine Kd.C_drewN ?_ _) | (with_reducible refine Kd.C_drew ?_))); (case side2 => exact HC0_0.out); rintro e w6 ⟨rfl, hb⟩; have n0_ := qas (blk_below (g := gb170) (o := .cells #[.slice A0_0 l0_0.length c0_0] 24 (0, 0)) (by (with_reducible repeat (first | refine qkA ?_ _ | refine qkB ?_ | refine qkC ?_ _)); exact BK170.out) hb); have n1_ := qas (below_step (by repeat (first | (with_reducible first | exact HB.out | apply qbA | apply qbB | apply qbC | refine below_set ?_ GE170.out) | exact HB.out)) hb); clear BK170; clear HB; have BK170 := n0_; have HB := n1_; clear n0_ n1_; (try clear hb); (try clear hb2); (try clear hk); (try clear hi))))
 go_loopg [3, 4] k (fun kq v3 v4 w' => ∃ (x3_1 : Int) (x4_1 : Int), v3 = .int .i64 x3_1 ∧ v4 = .int .i64 x4_1 ∧ Aside0 (pr_Size.l0 kq x3_1 x4_1 l0_0 = some r) ∧ Aside0 (kq ≤ k) ∧ Aside0 (w'.heap[gb170]? = some (.cells #[(.slice A0_0 l0_0.length c0_0)] 24 (0, 0))) ∧ Aside0 (Below w.heap.size w w'))
 case atStart => exact ⟨(22), (0), (by first | rfl | (simp; done) | (simp [*]; done)), (by first | rfl | (simp; done) | (simp [*]; done)), H', ⟨Nat.le_refl _⟩, ⟨by (with_reducible repeat (first | refine qkA ?_ _ | refine qkB ?_ | refine qkC ?_ _)); exact BK170.out⟩, ⟨by repeat (first | (with_reducible first | exact HB.out | apply qbA | apply qbB | apply qbC | refine below_set ?_ GE170.out) | exact HB.out)⟩⟩
 case round =>
  clear H'
  try clear c2
  try clear p2
  try clear c3
  try clear hcz5_0
  try clear hfz5_0
  obtain ⟨x3_1, x4_1, rfl, rfl, HA, HK1, BK170, HB⟩ := hrel
  cases gk with
  | zero => exact absurd HA.out (by simp [pr_Size.l0])
  | succ k1 =>
   have H := HA.out
   clear HA
   simp only [pr_Size.l0] at H
   by_cases c7 : x4_1 < (l0_0.length : Int)
   rotate_left
   ·rw [if_neg c7] at H
    have c7b0 : decide (x4_1 < (l0_0.length : Int)) = false := decide_eq_false c7
    clear c7
    obtain rfl := Option.some.inj H
    have hcz10_0 : wr.cell? ⟨gb170, 0, none⟩ = some (.slice A0_0 l0_0.length c0_0) := (blk_cell BK170.out 0).trans rfl
    have hfz10_0 := blk_frozen BK170.out 0
    go_wp2
    repeat (go_quiet (fail); try go_wp2)
    go_ret
    exact ⟨by first | rfl | (simp [errW_none, errW_some] <;> rfl) | (simp [*, errW_none, errW_some] <;> rfl), by repeat (first | (with_reducible first | exact HB.out | apply qbA | apply qbB | apply qbC | refine below_set ?_ GE170.out) | exact HB.out)⟩
   rw [if_pos c7] at H
   have c7b0 : decide (x4_1 < (l0_0.length : Int)) = true := decide_eq_true c7
   clear c7
   by_cases c8 : 0 ≤ x4_1
   rotate_left
   ·rw [if_neg c8] at H
    exact absurd H (by simp)
   rw [if_pos c8] at H
   have c8b0 : decide (0 ≤ x4_1) = true := decide_eq_true c8
   clear c8
   have H' := qas H
   clear H
   have hcz9_0 : wr.cell? ⟨gb170, 0, none⟩ = some (.slice A0_0 l0_0.length c0_0) := (blk_cell BK170.out 0).trans rfl
   have hfz9_0 := blk_frozen BK170.out 0
   have p172 : 0 ≤ (x4_1 : Int) := qde (by first | (with_reducible assumption) | assumption)
   have q172 : x4_1 < (l0_0.length : Int) := qde (by first | (with_reducible assumption) | assumption)
   obtain ⟨ad172, A172_2, c172_2, e172, hx172_0, hx172_1, hx172_2, hx172_3, hx172_4, hx172_5, hx172_6, hx172_7, hx172_8, hl172_2, hi172_2⟩ := at_T39 HR0_0.out x4_1 p172 q172
   cases e172
   replace hx172_0 := (HB.out.cell (qbl w _ hx172_0)).trans hx172_0
   replace hx172_1 := (HB.out.cell (qbl w _ hx172_1)).trans hx172_1
   replace hx172_2 := (HB.out.cell (qbl w _ hx172_2)).trans hx172_2
   replace hx172_3 := (HB.out.cell (qbl w _ hx172_3)).trans hx172_3
   replace hx172_4 := (HB.out.cell (qbl w _ hx172_4)).trans hx172_4
   replace hx172_5 := (HB.out.cell (qbl w _ hx172_5)).trans hx172_5
   replace hx172_6 := (HB.out.cell (qbl w _ hx172_6)).trans hx172_6
   replace hx172_7 := (HB.out.cell (qbl w _ hx172_7)).trans hx172_7
   replace hx172_8 := (HB.out.cell (qbl w _ hx172_8)).trans hx172_8
   have HR172_2 := qas hi172_2
   have HC172_2 := qas hl172_2
   clear hi172_2 hl172_2
   replace p172 := eq_true p172
   replace q172 := eq_true q172
   have p173 : 0 ≤ (x4_1 : Int) := qde (by first | (with_reducible assumption) | assumption)
   have q173 : x4_1 < (l0_0.length : Int) := qde (by first | (with_reducible assumption) | assumption)
   obtain ⟨ad173, A173_2, c173_2, e173, hx173_0, hx173_1, hx173_2, hx173_3, hx173_4, hx173_5, hx173_6, hx173_7, hx173_8, hl173_2, hi173_2⟩ := at_T39 HR0_0.out x4_1 p173 q173
   obtain rfl : ad172 = ad173 := (by injection e173)
   replace hx173_0 := (HB.out.cell (qbl w _ hx173_0)).trans hx173_0
   replace hx173_1 := (HB.out.cell (qbl w _ hx173_1)).trans hx173_1
   replace hx173_2 := (HB.out.cell (qbl w _ hx173_2)).trans hx173_2
   replace hx173_3 := (HB.out.cell (qbl w _ hx173_3)).trans hx173_3
   replace hx173_4 := (HB.out.cell (qbl w _ hx173_4)).trans hx173_4
   replace hx173_5 := (HB.out.cell (qbl w _ hx173_5)).trans hx173_5
   replace hx173_6 := (HB.out.cell (qbl w _ hx173_6)).trans hx173_6
   replace hx173_7 := (HB.out.cell (qbl w _ hx173_7)).trans hx173_7
   replace hx173_8 := (HB.out.cell (qbl w _ hx173_8)).trans hx173_8
   have HR173_2 := qas hi173_2
   have HC173_2 := qas hl173_2
   clear hi173_2 hl173_2
   replace p173 := eq_true p173
   replace q173 := eq_true q173
   have ea_ := Option.some.inj (hx172_2.symm.trans hx173_2)
   injection ea_ with ea_ en_ ec_
   subst ea_
   subst ec_
   clear en_
   go_wp2
   repeat (go_quiet (fail); try go_wp2)
   go_roundg k1
   case measure => have := HK1.out; omega
   case rel => exact ⟨(wrap64 ((wrap64 ((wrap64 ((wrap64 (x3_1 + 76)) + (wrap64 (2 * (((rd_T39 l0_0 x4_1).f0).size : Int))))) + 52)) + (((rd_T39 l0_0 x4_1).f6).size : Int))), (wrap64 (x4_1 + 1)), (by first | rfl | (simp; done) | (simp [*]; done)), (by first | rfl | (simp; done) | (simp [*]; done)), H', ⟨by have := HK1.out; omega⟩, ⟨by (with_reducible repeat (first | refine qkA ?_ _ | refine qkB ?_ | refine qkC ?_ _)); exact BK170.out⟩, ⟨by repeat (first | (with_reducible first | exact HB.out | apply qbA | apply qbB | apply qbC | refine below_set ?_ GE170.out) | exact HB.out)⟩⟩

/-! ### pr_Bytes: function 53 -/
def pr_Bytes.l0 : Nat → Int → Int → List Int → Int → Option (ByteArray)
 | 0, _, _, _, _ => none
 | k + 1, x0, x1, x5, x6 => if x6 < x1 then (if 0 ≤ (wrap64 (8 * x6)) then (if x5.length < 140737488355328 then (pr_Bytes.l0 k x0 x1 (x5 ++ [(shr .i64 x0 (wrap64 (8 * x6))) % 256]) (wrap64 (x6 + 1))) else (none)) else (none)) else (some (strOfNums x5))
def pr_Bytes.f (k : Nat) (a0 : Int) (a1 : Int) : Option (ByteArray) := pr_Bytes.l0 k a0 a1 ([] : List Int) 0
theorem pr_Bytes.mono_l : ∀ k, (∀ y0 y1 y2 y3, LeO (pr_Bytes.l0 k y0 y1 y2 y3) (pr_Bytes.l0 (k + 1) y0 y1 y2 y3))
 | 0 => fun _ _ _ _ r h => by simp [pr_Bytes.l0] at h
 | k + 1 => by
  have ih0 := pr_Bytes.mono_l k
  ·intro y0 y1 y2 y3
   unfold pr_Bytes.l0
   repeat' first
   | (with_reducible exact ih0 _ _ _ _)
   | (with_reducible exact LeO.refl _)
   | (with_reducible exact LeO.none _)
   | (with_reducible refine LeO.ite ?_ ?_)
   | (with_reducible refine LeO.bind ?_ (fun _ => ?_))
   | exact ih0 _ _ _ _
   | exact LeO.none _
   | refine LeO.ite ?_ ?_
   | refine LeO.bind ?_ (fun _ => ?_)
theorem pr_Bytes.mono : ∀ a0 a1 k, LeO (pr_Bytes.f k a0 a1) (pr_Bytes.f (k + 1) a0 a1) := by
 intro a0 a1 k
 have ih0 := pr_Bytes.mono_l k
 unfold pr_Bytes.f
 repeat' first
   | (with_reducible exact ih0 _ _ _ _)
   | (with_reducible exact LeO.refl _)
   | (with_reducible exact LeO.none _)
   | (with_reducible refine LeO.ite ?_ ?_)
   | (with_reducible refine LeO.bind ?_ (fun _ => ?_))
   | exact ih0 _ _ _ _
   | exact LeO.none _
   | refine LeO.ite ?_ ?_
   | refine LeO.bind ?_ (fun _ => ?_)
set_option maxHeartbeats 8000000 in
set_option maxRecDepth 100000 in
theorem pr_Bytes.calls (k : Nat) (a0 : Int) (a1 : Int) (r : ByteArray) (w : World) (h : pr_Bytes.f k a0 a1 = some r) :
  Calls Tryd.prog 53 #[.int .i64 a0, .int .i64 a1] w fun e w' => e = .returned (.string r) ∧ Below w.heap.size w w' := by
 have HB := qas (Below.refl w.heap.size w)
 have H : (pr_Bytes.l0 k a0 a1 ([] : List Int) 0) = some r := h
 clear h
 have H' := qas H
 clear H
 go_enter Tryd.func53, Tryd.ntmps53
 go_wp2
 go_loopg [5, 6] k (fun kq v5 v6 w' => ∃ (x5_1 : List Int) (x6_1 : Int), v6 = .int .i64 x6_1 ∧ Aside0 (pr_Bytes.l0 kq a0 a1 x5_1 x6_1 = some r) ∧ Aside0 (kq ≤ k) ∧ Aside0 (Kd.R (Kd.int .u8) 5 w' w.heap.size (fun _ => True) v5 x5_1) ∧ Aside0 (Below w.heap.size w w'))
 case atStart => exact ⟨(([] : List Int)), (0), (by first | rfl | (simp; done) | (simp [*]; done)), H', ⟨Nat.le_refl _⟩, ⟨by first | exact Kd.R_nil _ _ _ _ _ | exact Kd.N_nil _ _ _ _ _ | exact Kd.V_nil _ _ _ _ _ | exact Kd.Q_nil _ _ _ _ _ | exact Kd.S_nil _ _ _ _ _⟩, ⟨by repeat (first | (with_reducible first | exact HB.out | apply qbA | apply qbB | apply qbC) | exact HB.out)⟩⟩
 case round =>
  clear H'
  try clear p2
  obtain ⟨x5_1, x6_1, rfl, HA, HK1, HO_5, HB⟩ := hrel
  cases gk with
  | zero => exact absurd HA.out (by simp [pr_Bytes.l0])
  | succ k1 =>
   have H := HA.out
   clear HA
   simp only [pr_Bytes.l0] at H
   by_cases c3 : x6_1 < a1
   rotate_left
   ·rw [if_neg c3] at H
    have c3b0 : decide (x6_1 < a1) = false := decide_eq_false c3
    clear c3
    obtain rfl := Option.some.inj H
    have hcv9 := own_string (P := Tryd.prog) Tryd.underlying43 Tryd.underlying5 Tryd.underlying9 (Kd.own_of_R HO_5.out)
    go_wp2
    go_ret
    exact ⟨by first | rfl | (simp [errW_none, errW_some] <;> rfl) | (simp [*, errW_none, errW_some] <;> rfl), by repeat (first | (with_reducible first | exact HB.out | apply qbA | apply qbB | apply qbC) | exact HB.out)⟩
   rw [if_pos c3] at H
   have c3b0 : decide (x6_1 < a1) = true := decide_eq_true c3
   clear c3
   obtain ⟨ji4, hji4⟩ : ∃ j_ : Int, (wrap64 (8 * x6_1)) = j_ := ⟨_, rfl⟩
   replace H : (if 0 ≤ (ji4) then (if x5_1.length < 140737488355328 then (pr_Bytes.l0 k1 a0 a1 (x5_1 ++ [(shr .i64 a0 (ji4)) % 256]) (wrap64 (x6_1 + 1))) else (none)) else (none)) = some r := by first | (rw [hji4] at H; exact H) | (simp only [hji4] at H ⊢; exact H)
   have hji4w : (IntKind.i64.wrap (8 * x6_1)) = ji4 := (i64_w _).trans hji4
   by_cases c5 : 0 ≤ (ji4)
   rotate_left
   ·rw [if_neg c5] at H
    exact absurd H (by simp)
   rw [if_pos c5] at H
   have c5b0 := eq_true c5
   have c5b1 : decide (0 ≤ (ji4)) = true := decide_eq_true c5
   clear c5
   obtain ⟨ji6, hji6⟩ : ∃ j_ : Int, (shr .i64 a0 (ji4)) = j_ := ⟨_, rfl⟩
   replace H : (if x5_1.length < 140737488355328 then (pr_Bytes.l0 k1 a0 a1 (x5_1 ++ [(ji6) % 256]) (wrap64 (x6_1 + 1))) else (none)) = some r := by first | (rw [hji6] at H; exact H) | (simp only [hji6] at H ⊢; exact H)
   have hji6_ : (a0 / 2 ^ min (ji4).toNat 64) = ji6 := hji6
   have hji6z : (ji4) ≤ 64 → (a0 / 2 ^ (ji4).toNat) = ji6 := shr_small hji6
   (try (have hji6B : (ji4) ≤ 64 := by first | omega | (rw [← hji4]; exact Int.le_trans (Int.le_of_lt (Int.tmod_lt_of_pos _ (by decide))) (by decide))))
   (try (have hji6C := hji6z hji6B))
   by_cases c7 : x5_1.length < 140737488355328
   rotate_left
   ·rw [if_neg c7] at H
    exact absurd H (by simp)
   rw [if_pos c7] at H
   have LMc7 := qas c7
   clear c7
   obtain ⟨y174, hy174⟩ : ∃ y_ : List Int, y_ = (x5_1 ++ [(ji6) % 256]) := ⟨_, rfl⟩
   replace H : (pr_Bytes.l0 k1 a0 a1 y174 (wrap64 (x6_1 + 1))) = some r := by first | (rw [hy174]; with_reducible exact H) | (have H2_ := (Option.bind_some _ _).symm.trans H; rw [hy174]; with_reducible exact H2_) | (have H2_ := (Option.bind_some _ _).symm.trans H; with_reducible exact H2_) | with_reducible exact H | (rw [hy174]; exact H) | exact H
   have Ny174 := qas hy174
   clear hy174
   have H' := qas H
   clear H
   go_wp2_with (first | ((with_reducible refine gate_builtin (b := .append) (xs := #[.tmp 12, .tmp 18]) rfl ?_); at_builtin; refine Kd.R_append (Kd.int .u8) (w0 := w) w.heap.size rfl (.tmp 12) (.tmp 18) 43 5 (.int .u8 0) 1 rfl Tryd.underlying43 info5 rfl (by decide) (by omega) u5 x5_1 ((ji6) % 256) [.int .u8 ((ji6) % 256)] (fun _ => True) (fun _ => False) rfl rfl ?aP (fun _ hk => hk.elim) ?aF ?aO ?aB ?aS ?aL ?_; (case aP => exact rfl); (case aB => exact (by repeat (first | (with_reducible first | exact HB.out | apply qbA | apply qbB | apply qbC) | exact HB.out))); (case aF => exact (fun _ _ => trivial)); (case aO => exact (by (with_reducible repeat (first | apply Kd.R_alloc | apply Kd.R_drewN | apply Kd.R_drew)); exact HO_5.out)); (case aS => exact (below_size (by repeat (first | (with_reducible first | exact HB.out | apply qbA | apply qbB | apply qbC) | exact HB.out)))); (case aL => have := LMc7.out; omega); intro v175 w8 ho hb hg hat; rw [← Ny174.out] at ho; have n0_ := qas (hb); have n1_ := qas (ho); clear HB; clear HO_5; have HB := n0_; have HO176 := n1_; clear n0_ n1_; clear ho hb hg hat))
   go_roundg k1
   case measure => have := HK1.out; omega
   case rel => exact ⟨(y174), (wrap64 (x6_1 + 1)), (by first | rfl | (simp; done) | (simp [*]; done)), H', ⟨by have := HK1.out; omega⟩, ⟨by (with_reducible repeat (first | apply Kd.R_alloc | apply Kd.R_drewN | apply Kd.R_drew)); exact HO176.out⟩, ⟨by repeat (first | (with_reducible first | exact HB.out | apply qbA | apply qbB | apply qbC) | exact HB.out)⟩⟩

end Go.Proofs.YtneogampbohfnaaDoor.ZZ
