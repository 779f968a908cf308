/- The walk of zipput.May. -/
import Derived.Test.YtneogampbohfnaaDoorZipW
import Derived.Laws.Cover1
namespace Go.Proofs.YtneogampbohfnaaDoor.ZipW
open Go.RowKit Go.Proofs.YtneogampbohfnaaDoorW.PrintWords Go.Proofs.YtneogampbohfnaaDoorW.PrintLast Go.Proofs.YtneogampbohfnaaDoorW.PrintMore Go.Proofs.YtneogampbohfnaaDoor.ZB
set_option linter.unusedVariables false
set_option linter.unusedSimpArgs false
/-- Does an entry's name follow the one ahead of it? -/
def rises (xs : List S39) (i : Nat) : Bool := Op.bytesLess (rd_T39 xs ((i : Int) - 1)).f0.toList (rd_T39 xs (i : Int)).f0.toList
def mayAt (xs : List S39) (i : Nat) : Bool := nm (rd_T39 xs (i : Int)).f0.data.toList && ((decide (i = 0) || rises xs i) && (mayE (rd_T39 xs (i : Int)).f2 (rd_T39 xs (i : Int)).f3 (rd_T39 xs (i : Int)).f4 && content (rd_T39 xs (i : Int))))
/-- May a folder be written? -/
def mayL (xs : List S39) : Bool := (List.range xs.length).all (mayAt xs) && decide (xs.length ≤ 6)
theorem name_any (s : ByteArray) : name_May.f s = some (nm s.data.toList) := by
 by_cases h : s.size ≤ 8
 ·exact may_eq s (by omega)
 ·have hl := size_list s
  unfold name_May.f nm
  rw [if_pos (by omega), if_neg (by omega), decide_eq_false (p := s.data.toList.length ≤ 8) (by omega), Bool.false_and, Bool.and_false]
theorem emay_call (w : World) (ad : Addr) (x : S39) (A2 : Option Addr) (c2 : Nat) (hE : Ent w ad x A2 c2) (b : Bool) (hb : mayE x.f2 x.f3 x.f4 = b) : Calls Tryd.prog 56 #[.pointer (some ad)] w fun e w' => e = .returned (.bool b) ∧ Below w.heap.size w w' := by
 subst hb
 exact (emay_any w ad x A2 c2 hE).mono fun e w' ⟨he, hd⟩ => ⟨he, hd.below⟩
theorem cont_call (w : World) (ad : Addr) (x : S39) (A2 : Option Addr) (c2 : Nat) (hE : Ent w ad x A2 c2) (b : Bool) (hb : content x = b) : Calls Tryd.prog 57 #[.pointer (some ad)] w fun e w' => e = .returned (.bool b) ∧ Below w.heap.size w w' := by
 subst hb
 exact (cont_any w ad x A2 c2 hE).mono fun e w' ⟨he, hd⟩ => ⟨he, hd.below⟩
abbrev zo0 : Go.Oper := { dst := some 15, op := Go.Op.move (Go.Operand.tmp 4), type := 41, pos := "zipput.go:50", after := #[], guard := none }
abbrev zo1 : Go.Oper := { dst := some 16, op := Go.Op.nilCheck (Go.Operand.tmp 15), type := 0, pos := "zipput.go:50", after := #[{ on := 0, ground := Go.Ground.data }], guard := none }
abbrev zo2 : Go.Oper := { dst := some 17, op := Go.Op.fieldAddr 39 (Go.Operand.tmp 16) 0, type := 0, pos := "zipput.go:50", after := #[{ on := 1, ground := Go.Ground.data }], guard := none }
abbrev zo3 : Go.Oper := { dst := some 18, op := Go.Op.load 9 (Go.Operand.tmp 17), type := 9, pos := "zipput.go:50", after := #[{ on := 2, ground := Go.Ground.data }], guard := none }
abbrev zo4 : Go.Oper := { dst := some 20, op := Go.Op.unOp Go.UnOp.not 4 (Go.Operand.tmp 19), type := 4, pos := "zipput.go:50", after := #[{ on := 4, ground := Go.Ground.data }], guard := none }
abbrev zo5 : Go.Oper := { dst := some 21, op := Go.Op.move (Go.Operand.tmp 20), type := 4, pos := "zipput.go:50", after := #[{ on := 5, ground := Go.Ground.data }, { on := 4, ground := Go.Ground.chain }], guard := none }
abbrev zo6 : Go.Oper := { dst := some 22, op := Go.Op.move (Go.Operand.tmp 3), type := 3, pos := "zipput.go:50", after := #[{ on := 6, ground := Go.Ground.guard }], guard := some (6, false) }
abbrev zo7 : Go.Oper := { dst := some 23, op := Go.Op.binOp Go.BinOp.gtr 3 (Go.Operand.tmp 22) (Go.Operand.const (Go.Value.int Go.IntKind.i64 0)) 3, type := 4, pos := "zipput.go:50", after := #[{ on := 7, ground := Go.Ground.data }, { on := 6, ground := Go.Ground.guard }], guard := some (6, false) }
abbrev zo8 : Go.Oper := { dst := some 24, op := Go.Op.move (Go.Operand.tmp 23), type := 4, pos := "zipput.go:50", after := #[{ on := 8, ground := Go.Ground.data }, { on := 6, ground := Go.Ground.chain }, { on := 6, ground := Go.Ground.guard }], guard := some (6, false) }
abbrev zo9 : Go.Oper := { dst := some 25, op := Go.Op.fieldAddr 24 (Go.Operand.tmp 1) 0, type := 0, pos := "zipput.go:50", after := #[{ on := 9, ground := Go.Ground.guard }], guard := some (9, true) }
abbrev zo10 : Go.Oper := { dst := some 26, op := Go.Op.load 22 (Go.Operand.tmp 25), type := 22, pos := "zipput.go:50", after := #[{ on := 10, ground := Go.Ground.data }, { on := 9, ground := Go.Ground.guard }], guard := some (9, true) }
abbrev zo11 : Go.Oper := { dst := some 27, op := Go.Op.move (Go.Operand.tmp 3), type := 3, pos := "zipput.go:50", after := #[{ on := 9, ground := Go.Ground.guard }], guard := some (9, true) }
abbrev zo12 : Go.Oper := { dst := some 28, op := Go.Op.binOp Go.BinOp.sub 3 (Go.Operand.tmp 27) (Go.Operand.const (Go.Value.int Go.IntKind.i64 1)) 3, type := 3, pos := "zipput.go:50", after := #[{ on := 12, ground := Go.Ground.data }, { on := 9, ground := Go.Ground.guard }], guard := some (9, true) }
abbrev zo13 : Go.Oper := { dst := some 29, op := Go.Op.indexAddr 22 (Go.Operand.tmp 26) (Go.Operand.tmp 28), type := 0, pos := "zipput.go:50", after := #[{ on := 11, ground := Go.Ground.data }, { on := 13, ground := Go.Ground.data }, { on := 9, ground := Go.Ground.guard }], guard := some (9, true) }
abbrev zo14 : Go.Oper := { dst := some 30, op := Go.Op.fieldAddr 39 (Go.Operand.tmp 29) 0, type := 0, pos := "zipput.go:50", after := #[{ on := 14, ground := Go.Ground.data }, { on := 9, ground := Go.Ground.guard }], guard := some (9, true) }
abbrev zo15 : Go.Oper := { dst := some 31, op := Go.Op.load 9 (Go.Operand.tmp 30), type := 9, pos := "zipput.go:50", after := #[{ on := 15, ground := Go.Ground.data }, { on := 9, ground := Go.Ground.guard }], guard := some (9, true) }
abbrev zo16 : Go.Oper := { dst := some 32, op := Go.Op.move (Go.Operand.tmp 4), type := 41, pos := "zipput.go:50", after := #[{ on := 9, ground := Go.Ground.guard }], guard := some (9, true) }
abbrev zo17 : Go.Oper := { dst := some 33, op := Go.Op.nilCheck (Go.Operand.tmp 32), type := 0, pos := "zipput.go:50", after := #[{ on := 17, ground := Go.Ground.data }, { on := 9, ground := Go.Ground.guard }], guard := some (9, true) }
abbrev zo18 : Go.Oper := { dst := some 34, op := Go.Op.fieldAddr 39 (Go.Operand.tmp 33) 0, type := 0, pos := "zipput.go:50", after := #[{ on := 18, ground := Go.Ground.data }, { on := 9, ground := Go.Ground.guard }], guard := some (9, true) }
abbrev zo19 : Go.Oper := { dst := some 35, op := Go.Op.load 9 (Go.Operand.tmp 34), type := 9, pos := "zipput.go:50", after := #[{ on := 19, ground := Go.Ground.data }, { on := 9, ground := Go.Ground.guard }], guard := some (9, true) }
abbrev zo20 : Go.Oper := { dst := some 36, op := Go.Op.binOp Go.BinOp.geq 9 (Go.Operand.tmp 31) (Go.Operand.tmp 35) 9, type := 4, pos := "zipput.go:50", after := #[{ on := 16, ground := Go.Ground.data }, { on := 20, ground := Go.Ground.data }, { on := 9, ground := Go.Ground.guard }], guard := some (9, true) }
abbrev zo21 : Go.Oper := { dst := some 37, op := Go.Op.pick (Go.Operand.tmp 24) (Go.Operand.tmp 36) (Go.Operand.const (Go.Value.bool false)), type := 4, pos := "zipput.go:50", after := #[{ on := 9, ground := Go.Ground.data }, { on := 21, ground := Go.Ground.data }, { on := 6, ground := Go.Ground.guard }], guard := some (6, false) }
abbrev zo22 : Go.Oper := { dst := some 38, op := Go.Op.pick (Go.Operand.tmp 21) (Go.Operand.const (Go.Value.bool true)) (Go.Operand.tmp 37), type := 4, pos := "zipput.go:50", after := #[{ on := 6, ground := Go.Ground.data }, { on := 22, ground := Go.Ground.data }], guard := none }
abbrev zo23 : Go.Oper := { dst := some 39, op := Go.Op.move (Go.Operand.tmp 38), type := 4, pos := "zipput.go:50", after := #[{ on := 23, ground := Go.Ground.data }, { on := 9, ground := Go.Ground.chain }], guard := none }
abbrev zo24 : Go.Oper := { dst := some 40, op := Go.Op.move (Go.Operand.tmp 4), type := 41, pos := "zipput.go:50", after := #[{ on := 24, ground := Go.Ground.guard }], guard := some (24, false) }
abbrev zo25 : Go.Oper := { dst := some 41, op := Go.Op.call { callee := Go.Callee.value (Go.Operand.func 56), args := #[Go.Operand.tmp 40], argTypes := #[41] }, type := 4, pos := "zipput.go:50", after := #[{ on := 25, ground := Go.Ground.data }, { on := 24, ground := Go.Ground.chain }, { on := 24, ground := Go.Ground.guard }], guard := some (24, false) }
abbrev zo26 : Go.Oper := { dst := some 42, op := Go.Op.unOp Go.UnOp.not 4 (Go.Operand.tmp 41), type := 4, pos := "zipput.go:50", after := #[{ on := 26, ground := Go.Ground.data }, { on := 24, ground := Go.Ground.guard }], guard := some (24, false) }
abbrev zo27 : Go.Oper := { dst := some 43, op := Go.Op.pick (Go.Operand.tmp 39) (Go.Operand.const (Go.Value.bool true)) (Go.Operand.tmp 42), type := 4, pos := "zipput.go:50", after := #[{ on := 24, ground := Go.Ground.data }, { on := 27, ground := Go.Ground.data }], guard := none }
abbrev zo28 : Go.Oper := { dst := some 44, op := Go.Op.move (Go.Operand.tmp 43), type := 4, pos := "zipput.go:50", after := #[{ on := 28, ground := Go.Ground.data }, { on := 26, ground := Go.Ground.chain }], guard := none }
abbrev zo29 : Go.Oper := { dst := some 45, op := Go.Op.move (Go.Operand.tmp 4), type := 41, pos := "zipput.go:50", after := #[{ on := 29, ground := Go.Ground.guard }], guard := some (29, false) }
abbrev zo30 : Go.Oper := { dst := some 46, op := Go.Op.call { callee := Go.Callee.value (Go.Operand.func 57), args := #[Go.Operand.tmp 45], argTypes := #[41] }, type := 4, pos := "zipput.go:50", after := #[{ on := 30, ground := Go.Ground.data }, { on := 29, ground := Go.Ground.chain }, { on := 29, ground := Go.Ground.guard }], guard := some (29, false) }
abbrev zo31 : Go.Oper := { dst := some 47, op := Go.Op.unOp Go.UnOp.not 4 (Go.Operand.tmp 46), type := 4, pos := "zipput.go:50", after := #[{ on := 31, ground := Go.Ground.data }, { on := 29, ground := Go.Ground.guard }], guard := some (29, false) }
abbrev zo32 : Go.Oper := { dst := some 48, op := Go.Op.pick (Go.Operand.tmp 44) (Go.Operand.const (Go.Value.bool true)) (Go.Operand.tmp 47), type := 4, pos := "zipput.go:50", after := #[{ on := 29, ground := Go.Ground.data }, { on := 32, ground := Go.Ground.data }], guard := none }
abbrev zo33 : Go.Oper := { dst := some 19, op := Go.Op.call { callee := Go.Callee.value (Go.Operand.func 55), args := #[Go.Operand.tmp 18], argTypes := #[9] }, type := 4, pos := "zipput.go:50", after := #[{ on := 3, ground := Go.Ground.data }], guard := none }
set_option maxHeartbeats 8000000 in
set_option maxRecDepth 100000 in
theorem may_walk (A : Option Addr) (c : Nat) (xs : List S39) (w : World) (hr0 : Kd.C k39 w A xs.length xs) (hc0 : xs.length ≤ c) (hn : xs.length ≤ 9223372036854775807) :
  Calls Tryd.prog 22 #[.agg #[.slice A xs.length c]] w fun e w' => e = .returned (.bool (mayL xs)) ∧ Below w.heap.size w w' := by
 have HR0 := qas hr0
 have HC0 := qas hc0
 have hn0 : (0 : Int) ≤ (xs.length : Int) := by omega
 have hn1 : (xs.length : Int) ≤ 9223372036854775807 := by omega
 have hb1 := qas (show Below w.heap.size w (w.alloc (.cells #[.slice A xs.length c] 24)) from qbA (Below.refl _ _) _)
 have hg1 := qas (heap_alloc_new w (.cells #[.slice A xs.length c] 24))
 clear hr0 hc0
 go_enter Tryd.func22, Tryd.ntmps22
 go_wp2_with fail
 obtain ⟨g, hg⟩ : ∃ g, w.heap.size = g := ⟨_, rfl⟩
 rw [hg] at hg1 ⊢
 generalize (w.alloc (.cells #[.slice A xs.length c] 24)) = w1 at hb1 hg1 ⊢
 go_loopw [8] (fun v8 wr => ∃ (i : Nat), v8 = .int .i64 (i : Int) ∧ i ≤ xs.length ∧ Aside0 ((List.range i).all (mayAt xs) = true) ∧ Aside0 (Below w.heap.size w wr) ∧ Aside0 (wr.heap[g]? = some (.cells #[.slice A xs.length c] 24 (0, 0)))) (fun v8 _ => xs.length - (intOf v8).toNat)
 case atStart => exact ⟨0, rfl, Nat.zero_le _, ⟨rfl⟩, hb1, hg1⟩
 case round =>
  clear hb1 hg1
  obtain ⟨i, rfl, hi, HA, HB, HG⟩ := hrel
  have hcg : wr.cell? ⟨g, 0, none⟩ = some (.slice A xs.length c) := (blk_cell HG.out 0).trans rfl
  have hi0 : (0 : Int) ≤ (i : Int) := by omega
  by_cases hlt : i < xs.length
  ·have hlt' : (i : Int) < (xs.length : Int) := by omega
   have hi1 : (i : Int) ≤ 9223372036854775807 := by omega
   obtain ⟨ad, A2, c2, e0, hE⟩ := ent_at HR0.out i hlt
   subst e0
   have HE := qas (hE.below HB.out)
   have hxx : (rd_T39 xs (i : Int)).f0.size ≤ 9223372036854775807 ∨ ¬ (rd_T39 xs (i : Int)).f0.size ≤ 9223372036854775807 := by omega
   obtain ⟨x, hx⟩ : ∃ x, rd_T39 xs (i : Int) = x := ⟨_, rfl⟩
   have HX := qas hx
   rw [hx] at HE
   clear hE hx
   have HMA : Aside0 (mayAt xs i = (nm x.f0.data.toList && ((decide (i = 0) || rises xs i) && (mayE x.f2 x.f3 x.f4 && content x)))) := ⟨by unfold mayAt; rw [HX.out]⟩
   have HMX : Aside0 (mayAt xs i = false → mayL xs = false) := ⟨fun h => by
    unfold mayL
    rw [Bool.and_eq_false_iff]
    left
    rw [List.all_eq_false]
    exact ⟨i, List.mem_range.2 hlt, by rw [h]; decide⟩⟩
   obtain ⟨p, hp⟩ : ∃ p, ad.add (i * 9) = p := ⟨_, rfl⟩
   rw [hp] at HE
   have HB4 := qas (Below.refl wr.heap.size wr)
   have hw1 : ∀ j : Nat, i = j + 1 → IntKind.i64.wrap ((i : Int) - 1) = (j : Int) := fun j e => by rw [IntKind.wrap_i64]; omega
   clear hxx
   rcases Nat.eq_zero_or_pos i with hz | hz
   ·have HMZ : Aside0 ((decide (i = 0) || rises xs i) = true) := ⟨by rw [decide_eq_true hz]; rfl⟩
    have hii : decide (0 < i) = false := decide_eq_false (by omega)
    have hii2 : ¬ 0 < i := by omega
    have hH : Aside0 (∀ W, Below wr.heap.size wr W → W.cell? ⟨g, 0, none⟩ = some (.slice (some ad) xs.length c) ∧ W.cell? p = some (.string x.f0) ∧ Below wr.heap.size wr W) := ⟨fun W hW => ⟨pw_cell_below hW ((blk_cell HG.out 0).trans rfl), pw_cell_below hW HE.out.h0, hW⟩⟩
    clear hw1 hz
    cases v1 : nm x.f0.data.toList with
    | false =>
     have W1 := qas v1
     have V1 : Aside0 (name_May.f x.f0 = some false) := ⟨by rw [name_any, v1]⟩
     clear v1
     go_wp2_with fail
     refine wp_region_held_drew (S := (fun W => W.cell? ⟨g, 0, none⟩ = some (.slice (some ad) xs.length c) ∧ W.cell? p = some (.string x.f0) ∧ Below wr.heap.size wr W)) (by kernel_rfl) ?s1_ (fun hHeld => ?r1_)
     case s1_ => exact hH.out _ (by with_reducible repeat (first | exact HB7.out | exact HB6.out | exact HB5.out | exact HB4.out | apply qbA | apply qbB | apply qbC))
     refine wpAnyH_take (i := 0) (oi := zo0) (v := ?v2_) rfl (by kernel_rfl) (by kernel_rfl) (by kernel_rfl) (fun _ _ _ h => h) (Or.inl ⟨by rfl, ?y2_⟩) hHeld ?r2_
     case y2_ => (intro w_ hSw_; (try dsimp only at hSw_); go_simp; try with_reducible rfl)
     (try simp only [Act.put, qsA, qsB, qsC])
     refine wpAnyH_take (i := 1) (oi := zo1) (v := ?v3_) rfl (by kernel_rfl) (by kernel_rfl) (by kernel_rfl) (fun _ _ _ h => h) (Or.inl ⟨by rfl, ?y3_⟩) hHeld ?r3_
     case y3_ => (intro w_ hSw_; (try dsimp only at hSw_); go_simp; try with_reducible rfl)
     (try simp only [Act.put, qsA, qsB, qsC])
     refine wpAnyH_take (i := 2) (oi := zo2) (v := ?v4_) rfl (by kernel_rfl) (by kernel_rfl) (by kernel_rfl) (fun _ _ _ h => h) (Or.inl ⟨by rfl, ?y4_⟩) hHeld ?r4_
     case y4_ => (intro w_ hSw_; (try dsimp only at hSw_); go_simp; try with_reducible rfl)
     (try simp only [Act.put, qsA, qsB, qsC])
     refine wpAnyH_take (i := 3) (oi := zo3) (v := ?v5_) rfl (by kernel_rfl) (by kernel_rfl) (by kernel_rfl) (fun _ _ _ h => h) (Or.inl ⟨by rfl, ?y5_⟩) hHeld ?r5_
     case y5_ => (intro w_ hSw_; (try dsimp only at hSw_); go_simp; try with_reducible rfl)
     (try simp only [Act.put, qsA, qsB, qsC])
     refine wpAnyH_ready (rs := [4]) (by kernel_rfl) (by simp) ?_
     refine AllReadyH.cons (o := zo33) rfl (fun K hK => ?_) AllReadyH.nil
     go_simp
     (go_at_call 55; (with_reducible refine (name_May.calls x.f0 false _ V1.out).mono ?_); rintro e w5 ⟨rfl, hb5⟩; have HB5 := qas (below_then (qbB HB4.out _) (Nat.le_refl _) hb5); clear hb5)
     try go_wp2_with fail
     clear hHeld
     refine hK.out _ _ ?s6_ (fun hHeld => ?r6_)
     case s6_ => exact hH.out _ (by with_reducible repeat (first | exact HB7.out | exact HB6.out | exact HB5.out | exact HB4.out | apply qbA | apply qbB | apply qbC))
     clear hK K
     (try simp only [Act.put, qsA, qsB, qsC])
     refine wpAnyH_take (i := 5) (oi := zo4) (v := ?v7_) rfl (by kernel_rfl) (by kernel_rfl) (by kernel_rfl) (fun _ _ _ h => h) (Or.inl ⟨by rfl, ?y7_⟩) hHeld ?r7_
     case y7_ => (intro w_ hSw_; (try dsimp only at hSw_); go_simp; try with_reducible rfl)
     (try simp only [Act.put, qsA, qsB, qsC])
     refine wpAnyH_take (i := 6) (oi := zo5) (v := ?v8_) rfl (by kernel_rfl) (by kernel_rfl) (by kernel_rfl) (fun _ _ _ h => h) (Or.inl ⟨by rfl, ?y8_⟩) hHeld ?r8_
     case y8_ => (intro w_ hSw_; (try dsimp only at hSw_); go_simp; try with_reducible rfl)
     (try simp only [Act.put, qsA, qsB, qsC])
     refine wpAnyH_take (i := 7) (oi := zo6) (v := undef) rfl (by kernel_rfl) (by kernel_rfl) (by kernel_rfl) (fun _ _ _ h => h) (Or.inr ⟨by rfl, rfl⟩) hHeld ?r9_
     (try simp only [Act.put, qsA, qsB, qsC])
     refine wpAnyH_take (i := 8) (oi := zo7) (v := undef) rfl (by kernel_rfl) (by kernel_rfl) (by kernel_rfl) (fun _ _ _ h => h) (Or.inr ⟨by rfl, rfl⟩) hHeld ?r10_
     (try simp only [Act.put, qsA, qsB, qsC])
     refine wpAnyH_take (i := 9) (oi := zo8) (v := undef) rfl (by kernel_rfl) (by kernel_rfl) (by kernel_rfl) (fun _ _ _ h => h) (Or.inr ⟨by rfl, rfl⟩) hHeld ?r11_
     (try simp only [Act.put, qsA, qsB, qsC])
     refine wpAnyH_take (i := 10) (oi := zo9) (v := undef) rfl (by kernel_rfl) (by kernel_rfl) (by kernel_rfl) (fun _ _ _ h => h) (Or.inr ⟨by rfl, rfl⟩) hHeld ?r12_
     (try simp only [Act.put, qsA, qsB, qsC])
     refine wpAnyH_take (i := 11) (oi := zo10) (v := undef) rfl (by kernel_rfl) (by kernel_rfl) (by kernel_rfl) (fun _ _ _ h => h) (Or.inr ⟨by rfl, rfl⟩) hHeld ?r13_
     (try simp only [Act.put, qsA, qsB, qsC])
     refine wpAnyH_take (i := 12) (oi := zo11) (v := undef) rfl (by kernel_rfl) (by kernel_rfl) (by kernel_rfl) (fun _ _ _ h => h) (Or.inr ⟨by rfl, rfl⟩) hHeld ?r14_
     (try simp only [Act.put, qsA, qsB, qsC])
     refine wpAnyH_take (i := 13) (oi := zo12) (v := undef) rfl (by kernel_rfl) (by kernel_rfl) (by kernel_rfl) (fun _ _ _ h => h) (Or.inr ⟨by rfl, rfl⟩) hHeld ?r15_
     (try simp only [Act.put, qsA, qsB, qsC])
     refine wpAnyH_take (i := 14) (oi := zo13) (v := undef) rfl (by kernel_rfl) (by kernel_rfl) (by kernel_rfl) (fun _ _ _ h => h) (Or.inr ⟨by rfl, rfl⟩) hHeld ?r16_
     (try simp only [Act.put, qsA, qsB, qsC])
     refine wpAnyH_take (i := 15) (oi := zo14) (v := undef) rfl (by kernel_rfl) (by kernel_rfl) (by kernel_rfl) (fun _ _ _ h => h) (Or.inr ⟨by rfl, rfl⟩) hHeld ?r17_
     (try simp only [Act.put, qsA, qsB, qsC])
     refine wpAnyH_take (i := 16) (oi := zo15) (v := undef) rfl (by kernel_rfl) (by kernel_rfl) (by kernel_rfl) (fun _ _ _ h => h) (Or.inr ⟨by rfl, rfl⟩) hHeld ?r18_
     (try simp only [Act.put, qsA, qsB, qsC])
     refine wpAnyH_take (i := 17) (oi := zo16) (v := undef) rfl (by kernel_rfl) (by kernel_rfl) (by kernel_rfl) (fun _ _ _ h => h) (Or.inr ⟨by rfl, rfl⟩) hHeld ?r19_
     (try simp only [Act.put, qsA, qsB, qsC])
     refine wpAnyH_take (i := 18) (oi := zo17) (v := undef) rfl (by kernel_rfl) (by kernel_rfl) (by kernel_rfl) (fun _ _ _ h => h) (Or.inr ⟨by rfl, rfl⟩) hHeld ?r20_
     (try simp only [Act.put, qsA, qsB, qsC])
     refine wpAnyH_take (i := 19) (oi := zo18) (v := undef) rfl (by kernel_rfl) (by kernel_rfl) (by kernel_rfl) (fun _ _ _ h => h) (Or.inr ⟨by rfl, rfl⟩) hHeld ?r21_
     (try simp only [Act.put, qsA, qsB, qsC])
     refine wpAnyH_take (i := 20) (oi := zo19) (v := undef) rfl (by kernel_rfl) (by kernel_rfl) (by kernel_rfl) (fun _ _ _ h => h) (Or.inr ⟨by rfl, rfl⟩) hHeld ?r22_
     (try simp only [Act.put, qsA, qsB, qsC])
     refine wpAnyH_take (i := 21) (oi := zo20) (v := undef) rfl (by kernel_rfl) (by kernel_rfl) (by kernel_rfl) (fun _ _ _ h => h) (Or.inr ⟨by rfl, rfl⟩) hHeld ?r23_
     (try simp only [Act.put, qsA, qsB, qsC])
     refine wpAnyH_take (i := 22) (oi := zo21) (v := undef) rfl (by kernel_rfl) (by kernel_rfl) (by kernel_rfl) (fun _ _ _ h => h) (Or.inr ⟨by rfl, rfl⟩) hHeld ?r24_
     (try simp only [Act.put, qsA, qsB, qsC])
     refine wpAnyH_take (i := 23) (oi := zo22) (v := ?v25_) rfl (by kernel_rfl) (by kernel_rfl) (by kernel_rfl) (fun _ _ _ h => h) (Or.inl ⟨by rfl, ?y25_⟩) hHeld ?r25_
     case y25_ => (intro w_ hSw_; (try dsimp only at hSw_); go_simp; try with_reducible rfl)
     (try simp only [Act.put, qsA, qsB, qsC])
     refine wpAnyH_take (i := 24) (oi := zo23) (v := ?v26_) rfl (by kernel_rfl) (by kernel_rfl) (by kernel_rfl) (fun _ _ _ h => h) (Or.inl ⟨by rfl, ?y26_⟩) hHeld ?r26_
     case y26_ => (intro w_ hSw_; (try dsimp only at hSw_); go_simp; try with_reducible rfl)
     (try simp only [Act.put, qsA, qsB, qsC])
     refine wpAnyH_take (i := 25) (oi := zo24) (v := undef) rfl (by kernel_rfl) (by kernel_rfl) (by kernel_rfl) (fun _ _ _ h => h) (Or.inr ⟨by rfl, rfl⟩) hHeld ?r27_
     (try simp only [Act.put, qsA, qsB, qsC])
     refine wpAnyH_take (i := 26) (oi := zo25) (v := undef) rfl (by kernel_rfl) (by kernel_rfl) (by kernel_rfl) (fun _ _ _ h => h) (Or.inr ⟨by rfl, rfl⟩) hHeld ?r28_
     (try simp only [Act.put, qsA, qsB, qsC])
     refine wpAnyH_take (i := 27) (oi := zo26) (v := undef) rfl (by kernel_rfl) (by kernel_rfl) (by kernel_rfl) (fun _ _ _ h => h) (Or.inr ⟨by rfl, rfl⟩) hHeld ?r29_
     (try simp only [Act.put, qsA, qsB, qsC])
     refine wpAnyH_take (i := 28) (oi := zo27) (v := ?v30_) rfl (by kernel_rfl) (by kernel_rfl) (by kernel_rfl) (fun _ _ _ h => h) (Or.inl ⟨by rfl, ?y30_⟩) hHeld ?r30_
     case y30_ => (intro w_ hSw_; (try dsimp only at hSw_); go_simp; try with_reducible rfl)
     (try simp only [Act.put, qsA, qsB, qsC])
     refine wpAnyH_take (i := 29) (oi := zo28) (v := ?v31_) rfl (by kernel_rfl) (by kernel_rfl) (by kernel_rfl) (fun _ _ _ h => h) (Or.inl ⟨by rfl, ?y31_⟩) hHeld ?r31_
     case y31_ => (intro w_ hSw_; (try dsimp only at hSw_); go_simp; try with_reducible rfl)
     (try simp only [Act.put, qsA, qsB, qsC])
     refine wpAnyH_take (i := 30) (oi := zo29) (v := undef) rfl (by kernel_rfl) (by kernel_rfl) (by kernel_rfl) (fun _ _ _ h => h) (Or.inr ⟨by rfl, rfl⟩) hHeld ?r32_
     (try simp only [Act.put, qsA, qsB, qsC])
     refine wpAnyH_take (i := 31) (oi := zo30) (v := undef) rfl (by kernel_rfl) (by kernel_rfl) (by kernel_rfl) (fun _ _ _ h => h) (Or.inr ⟨by rfl, rfl⟩) hHeld ?r33_
     (try simp only [Act.put, qsA, qsB, qsC])
     refine wpAnyH_take (i := 32) (oi := zo31) (v := undef) rfl (by kernel_rfl) (by kernel_rfl) (by kernel_rfl) (fun _ _ _ h => h) (Or.inr ⟨by rfl, rfl⟩) hHeld ?r34_
     (try simp only [Act.put, qsA, qsB, qsC])
     refine wpAnyH_take (i := 33) (oi := zo32) (v := ?v35_) rfl (by kernel_rfl) (by kernel_rfl) (by kernel_rfl) (fun _ _ _ h => h) (Or.inl ⟨by rfl, ?y35_⟩) hHeld ?r35_
     case y35_ => (intro w_ hSw_; (try dsimp only at hSw_); go_simp; try with_reducible rfl)
     (try simp only [Act.put, qsA, qsB, qsC])
     refine wpAnyH_done (by kernel_rfl) ?_ _
     go_wp2_with fail
     go_ret
     have hres : mayL xs = false := HMX.out (by rw [HMA.out, W1.out]; simp)
     rw [hres]
     exact ⟨rfl, by first | exact below_then HB.out HB.out.size HB5.out | (rw [← hg]; exact below_then HB.out HB.out.size HB5.out)⟩
    | true =>
     have W1 := qas v1
     have V1 : Aside0 (name_May.f x.f0 = some true) := ⟨by rw [name_any, v1]⟩
     clear v1
     cases v2 : mayE x.f2 x.f3 x.f4 with
     | false =>
      have V2 := qas v2
      clear v2
      go_wp2_with fail
      refine wp_region_held_drew (S := (fun W => W.cell? ⟨g, 0, none⟩ = some (.slice (some ad) xs.length c) ∧ W.cell? p = some (.string x.f0) ∧ Below wr.heap.size wr W)) (by kernel_rfl) ?s36_ (fun hHeld => ?r36_)
      case s36_ => exact hH.out _ (by with_reducible repeat (first | exact HB7.out | exact HB6.out | exact HB5.out | exact HB4.out | apply qbA | apply qbB | apply qbC))
      refine wpAnyH_take (i := 0) (oi := zo0) (v := ?v37_) rfl (by kernel_rfl) (by kernel_rfl) (by kernel_rfl) (fun _ _ _ h => h) (Or.inl ⟨by rfl, ?y37_⟩) hHeld ?r37_
      case y37_ => (intro w_ hSw_; (try dsimp only at hSw_); go_simp; try with_reducible rfl)
      (try simp only [Act.put, qsA, qsB, qsC])
      refine wpAnyH_take (i := 1) (oi := zo1) (v := ?v38_) rfl (by kernel_rfl) (by kernel_rfl) (by kernel_rfl) (fun _ _ _ h => h) (Or.inl ⟨by rfl, ?y38_⟩) hHeld ?r38_
      case y38_ => (intro w_ hSw_; (try dsimp only at hSw_); go_simp; try with_reducible rfl)
      (try simp only [Act.put, qsA, qsB, qsC])
      refine wpAnyH_take (i := 2) (oi := zo2) (v := ?v39_) rfl (by kernel_rfl) (by kernel_rfl) (by kernel_rfl) (fun _ _ _ h => h) (Or.inl ⟨by rfl, ?y39_⟩) hHeld ?r39_
      case y39_ => (intro w_ hSw_; (try dsimp only at hSw_); go_simp; try with_reducible rfl)
      (try simp only [Act.put, qsA, qsB, qsC])
      refine wpAnyH_take (i := 3) (oi := zo3) (v := ?v40_) rfl (by kernel_rfl) (by kernel_rfl) (by kernel_rfl) (fun _ _ _ h => h) (Or.inl ⟨by rfl, ?y40_⟩) hHeld ?r40_
      case y40_ => (intro w_ hSw_; (try dsimp only at hSw_); go_simp; try with_reducible rfl)
      (try simp only [Act.put, qsA, qsB, qsC])
      refine wpAnyH_ready (rs := [4]) (by kernel_rfl) (by simp) ?_
      refine AllReadyH.cons (o := zo33) rfl (fun K hK => ?_) AllReadyH.nil
      go_simp
      (go_at_call 55; (with_reducible refine (name_May.calls x.f0 true _ V1.out).mono ?_); rintro e w5 ⟨rfl, hb5⟩; have HB5 := qas (below_then (qbB HB4.out _) (Nat.le_refl _) hb5); clear hb5)
      try go_wp2_with fail
      clear hHeld
      refine hK.out _ _ ?s41_ (fun hHeld => ?r41_)
      case s41_ => exact hH.out _ (by with_reducible repeat (first | exact HB7.out | exact HB6.out | exact HB5.out | exact HB4.out | apply qbA | apply qbB | apply qbC))
      clear hK K
      (try simp only [Act.put, qsA, qsB, qsC])
      refine wpAnyH_take (i := 5) (oi := zo4) (v := ?v42_) rfl (by kernel_rfl) (by kernel_rfl) (by kernel_rfl) (fun _ _ _ h => h) (Or.inl ⟨by rfl, ?y42_⟩) hHeld ?r42_
      case y42_ => (intro w_ hSw_; (try dsimp only at hSw_); go_simp; try with_reducible rfl)
      (try simp only [Act.put, qsA, qsB, qsC])
      refine wpAnyH_take (i := 6) (oi := zo5) (v := ?v43_) rfl (by kernel_rfl) (by kernel_rfl) (by kernel_rfl) (fun _ _ _ h => h) (Or.inl ⟨by rfl, ?y43_⟩) hHeld ?r43_
      case y43_ => (intro w_ hSw_; (try dsimp only at hSw_); go_simp; try with_reducible rfl)
      (try simp only [Act.put, qsA, qsB, qsC])
      refine wpAnyH_take (i := 7) (oi := zo6) (v := ?v44_) rfl (by kernel_rfl) (by kernel_rfl) (by kernel_rfl) (fun _ _ _ h => h) (Or.inl ⟨by rfl, ?y44_⟩) hHeld ?r44_
      case y44_ => (intro w_ hSw_; (try dsimp only at hSw_); go_simp; try with_reducible rfl)
      (try simp only [Act.put, qsA, qsB, qsC])
      refine wpAnyH_take (i := 8) (oi := zo7) (v := ?v45_) rfl (by kernel_rfl) (by kernel_rfl) (by kernel_rfl) (fun _ _ _ h => h) (Or.inl ⟨by rfl, ?y45_⟩) hHeld ?r45_
      case y45_ => (intro w_ hSw_; (try dsimp only at hSw_); go_simp; try with_reducible rfl)
      (try simp only [Act.put, qsA, qsB, qsC])
      refine wpAnyH_take (i := 9) (oi := zo8) (v := ?v46_) rfl (by kernel_rfl) (by kernel_rfl) (by kernel_rfl) (fun _ _ _ h => h) (Or.inl ⟨by rfl, ?y46_⟩) hHeld ?r46_
      case y46_ => (intro w_ hSw_; (try dsimp only at hSw_); go_simp; try with_reducible rfl)
      (try simp only [Act.put, qsA, qsB, qsC])
      refine wpAnyH_take (i := 10) (oi := zo9) (v := undef) rfl (by kernel_rfl) (by kernel_rfl) (by kernel_rfl) (fun _ _ _ h => h) (Or.inr ⟨by rfl, rfl⟩) hHeld ?r47_
      (try simp only [Act.put, qsA, qsB, qsC])
      refine wpAnyH_take (i := 11) (oi := zo10) (v := undef) rfl (by kernel_rfl) (by kernel_rfl) (by kernel_rfl) (fun _ _ _ h => h) (Or.inr ⟨by rfl, rfl⟩) hHeld ?r48_
      (try simp only [Act.put, qsA, qsB, qsC])
      refine wpAnyH_take (i := 12) (oi := zo11) (v := undef) rfl (by kernel_rfl) (by kernel_rfl) (by kernel_rfl) (fun _ _ _ h => h) (Or.inr ⟨by rfl, rfl⟩) hHeld ?r49_
      (try simp only [Act.put, qsA, qsB, qsC])
      refine wpAnyH_take (i := 13) (oi := zo12) (v := undef) rfl (by kernel_rfl) (by kernel_rfl) (by kernel_rfl) (fun _ _ _ h => h) (Or.inr ⟨by rfl, rfl⟩) hHeld ?r50_
      (try simp only [Act.put, qsA, qsB, qsC])
      refine wpAnyH_take (i := 14) (oi := zo13) (v := undef) rfl (by kernel_rfl) (by kernel_rfl) (by kernel_rfl) (fun _ _ _ h => h) (Or.inr ⟨by rfl, rfl⟩) hHeld ?r51_
      (try simp only [Act.put, qsA, qsB, qsC])
      refine wpAnyH_take (i := 15) (oi := zo14) (v := undef) rfl (by kernel_rfl) (by kernel_rfl) (by kernel_rfl) (fun _ _ _ h => h) (Or.inr ⟨by rfl, rfl⟩) hHeld ?r52_
      (try simp only [Act.put, qsA, qsB, qsC])
      refine wpAnyH_take (i := 16) (oi := zo15) (v := undef) rfl (by kernel_rfl) (by kernel_rfl) (by kernel_rfl) (fun _ _ _ h => h) (Or.inr ⟨by rfl, rfl⟩) hHeld ?r53_
      (try simp only [Act.put, qsA, qsB, qsC])
      refine wpAnyH_take (i := 17) (oi := zo16) (v := undef) rfl (by kernel_rfl) (by kernel_rfl) (by kernel_rfl) (fun _ _ _ h => h) (Or.inr ⟨by rfl, rfl⟩) hHeld ?r54_
      (try simp only [Act.put, qsA, qsB, qsC])
      refine wpAnyH_take (i := 18) (oi := zo17) (v := undef) rfl (by kernel_rfl) (by kernel_rfl) (by kernel_rfl) (fun _ _ _ h => h) (Or.inr ⟨by rfl, rfl⟩) hHeld ?r55_
      (try simp only [Act.put, qsA, qsB, qsC])
      refine wpAnyH_take (i := 19) (oi := zo18) (v := undef) rfl (by kernel_rfl) (by kernel_rfl) (by kernel_rfl) (fun _ _ _ h => h) (Or.inr ⟨by rfl, rfl⟩) hHeld ?r56_
      (try simp only [Act.put, qsA, qsB, qsC])
      refine wpAnyH_take (i := 20) (oi := zo19) (v := undef) rfl (by kernel_rfl) (by kernel_rfl) (by kernel_rfl) (fun _ _ _ h => h) (Or.inr ⟨by rfl, rfl⟩) hHeld ?r57_
      (try simp only [Act.put, qsA, qsB, qsC])
      refine wpAnyH_take (i := 21) (oi := zo20) (v := undef) rfl (by kernel_rfl) (by kernel_rfl) (by kernel_rfl) (fun _ _ _ h => h) (Or.inr ⟨by rfl, rfl⟩) hHeld ?r58_
      (try simp only [Act.put, qsA, qsB, qsC])
      refine wpAnyH_take (i := 22) (oi := zo21) (v := ?v59_) rfl (by kernel_rfl) (by kernel_rfl) (by kernel_rfl) (fun _ _ _ h => h) (Or.inl ⟨by rfl, ?y59_⟩) hHeld ?r59_
      case y59_ => (intro w_ hSw_; (try dsimp only at hSw_); go_simp; try with_reducible rfl)
      (try simp only [Act.put, qsA, qsB, qsC])
      refine wpAnyH_take (i := 23) (oi := zo22) (v := ?v60_) rfl (by kernel_rfl) (by kernel_rfl) (by kernel_rfl) (fun _ _ _ h => h) (Or.inl ⟨by rfl, ?y60_⟩) hHeld ?r60_
      case y60_ => (intro w_ hSw_; (try dsimp only at hSw_); go_simp; try with_reducible rfl)
      (try simp only [Act.put, qsA, qsB, qsC])
      refine wpAnyH_take (i := 24) (oi := zo23) (v := ?v61_) rfl (by kernel_rfl) (by kernel_rfl) (by kernel_rfl) (fun _ _ _ h => h) (Or.inl ⟨by rfl, ?y61_⟩) hHeld ?r61_
      case y61_ => (intro w_ hSw_; (try dsimp only at hSw_); go_simp; try with_reducible rfl)
      (try simp only [Act.put, qsA, qsB, qsC])
      refine wpAnyH_take (i := 25) (oi := zo24) (v := ?v62_) rfl (by kernel_rfl) (by kernel_rfl) (by kernel_rfl) (fun _ _ _ h => h) (Or.inl ⟨by rfl, ?y62_⟩) hHeld ?r62_
      case y62_ => (intro w_ hSw_; (try dsimp only at hSw_); go_simp; try with_reducible rfl)
      (try simp only [Act.put, qsA, qsB, qsC])
      refine wpAnyH_ready (rs := [26]) (by kernel_rfl) (by simp) ?_
      refine AllReadyH.cons (o := zo25) rfl (fun K hK => ?_) AllReadyH.nil
      go_simp
      (go_at_call 56; (with_reducible refine (emay_call _ p x A2 c2 (HE.out.below (by with_reducible repeat (first | exact HB6.out | exact HB5.out | exact HB4.out | apply qbA | apply qbB | apply qbC))) false V2.out).mono ?_); rintro e w6 ⟨rfl, hb6⟩; have HB6 := qas (below_then HB5.out (HB5.out).size hb6); clear hb6)
      try go_wp2_with fail
      clear hHeld
      refine hK.out _ _ ?s63_ (fun hHeld => ?r63_)
      case s63_ => exact hH.out _ (by with_reducible repeat (first | exact HB7.out | exact HB6.out | exact HB5.out | exact HB4.out | apply qbA | apply qbB | apply qbC))
      clear hK K
      (try simp only [Act.put, qsA, qsB, qsC])
      refine wpAnyH_take (i := 27) (oi := zo26) (v := ?v64_) rfl (by kernel_rfl) (by kernel_rfl) (by kernel_rfl) (fun _ _ _ h => h) (Or.inl ⟨by rfl, ?y64_⟩) hHeld ?r64_
      case y64_ => (intro w_ hSw_; (try dsimp only at hSw_); go_simp; try with_reducible rfl)
      (try simp only [Act.put, qsA, qsB, qsC])
      refine wpAnyH_take (i := 28) (oi := zo27) (v := ?v65_) rfl (by kernel_rfl) (by kernel_rfl) (by kernel_rfl) (fun _ _ _ h => h) (Or.inl ⟨by rfl, ?y65_⟩) hHeld ?r65_
      case y65_ => (intro w_ hSw_; (try dsimp only at hSw_); go_simp; try with_reducible rfl)
      (try simp only [Act.put, qsA, qsB, qsC])
      refine wpAnyH_take (i := 29) (oi := zo28) (v := ?v66_) rfl (by kernel_rfl) (by kernel_rfl) (by kernel_rfl) (fun _ _ _ h => h) (Or.inl ⟨by rfl, ?y66_⟩) hHeld ?r66_
      case y66_ => (intro w_ hSw_; (try dsimp only at hSw_); go_simp; try with_reducible rfl)
      (try simp only [Act.put, qsA, qsB, qsC])
      refine wpAnyH_take (i := 30) (oi := zo29) (v := undef) rfl (by kernel_rfl) (by kernel_rfl) (by kernel_rfl) (fun _ _ _ h => h) (Or.inr ⟨by rfl, rfl⟩) hHeld ?r67_
      (try simp only [Act.put, qsA, qsB, qsC])
      refine wpAnyH_take (i := 31) (oi := zo30) (v := undef) rfl (by kernel_rfl) (by kernel_rfl) (by kernel_rfl) (fun _ _ _ h => h) (Or.inr ⟨by rfl, rfl⟩) hHeld ?r68_
      (try simp only [Act.put, qsA, qsB, qsC])
      refine wpAnyH_take (i := 32) (oi := zo31) (v := undef) rfl (by kernel_rfl) (by kernel_rfl) (by kernel_rfl) (fun _ _ _ h => h) (Or.inr ⟨by rfl, rfl⟩) hHeld ?r69_
      (try simp only [Act.put, qsA, qsB, qsC])
      refine wpAnyH_take (i := 33) (oi := zo32) (v := ?v70_) rfl (by kernel_rfl) (by kernel_rfl) (by kernel_rfl) (fun _ _ _ h => h) (Or.inl ⟨by rfl, ?y70_⟩) hHeld ?r70_
      case y70_ => (intro w_ hSw_; (try dsimp only at hSw_); go_simp; try with_reducible rfl)
      (try simp only [Act.put, qsA, qsB, qsC])
      refine wpAnyH_done (by kernel_rfl) ?_ _
      go_wp2_with fail
      go_ret
      have hres : mayL xs = false := HMX.out (by rw [HMA.out, W1.out, HMZ.out, V2.out]; simp)
      rw [hres]
      exact ⟨rfl, by first | exact below_then HB.out HB.out.size HB6.out | (rw [← hg]; exact below_then HB.out HB.out.size HB6.out)⟩
     | true =>
      have V2 := qas v2
      clear v2
      cases v3 : content x with
      | false =>
       have V3 := qas v3
       clear v3
       go_wp2_with fail
       refine wp_region_held_drew (S := (fun W => W.cell? ⟨g, 0, none⟩ = some (.slice (some ad) xs.length c) ∧ W.cell? p = some (.string x.f0) ∧ Below wr.heap.size wr W)) (by kernel_rfl) ?s71_ (fun hHeld => ?r71_)
       case s71_ => exact hH.out _ (by with_reducible repeat (first | exact HB7.out | exact HB6.out | exact HB5.out | exact HB4.out | apply qbA | apply qbB | apply qbC))
       refine wpAnyH_take (i := 0) (oi := zo0) (v := ?v72_) rfl (by kernel_rfl) (by kernel_rfl) (by kernel_rfl) (fun _ _ _ h => h) (Or.inl ⟨by rfl, ?y72_⟩) hHeld ?r72_
       case y72_ => (intro w_ hSw_; (try dsimp only at hSw_); go_simp; try with_reducible rfl)
       (try simp only [Act.put, qsA, qsB, qsC])
       refine wpAnyH_take (i := 1) (oi := zo1) (v := ?v73_) rfl (by kernel_rfl) (by kernel_rfl) (by kernel_rfl) (fun _ _ _ h => h) (Or.inl ⟨by rfl, ?y73_⟩) hHeld ?r73_
       case y73_ => (intro w_ hSw_; (try dsimp only at hSw_); go_simp; try with_reducible rfl)
       (try simp only [Act.put, qsA, qsB, qsC])
       refine wpAnyH_take (i := 2) (oi := zo2) (v := ?v74_) rfl (by kernel_rfl) (by kernel_rfl) (by kernel_rfl) (fun _ _ _ h => h) (Or.inl ⟨by rfl, ?y74_⟩) hHeld ?r74_
       case y74_ => (intro w_ hSw_; (try dsimp only at hSw_); go_simp; try with_reducible rfl)
       (try simp only [Act.put, qsA, qsB, qsC])
       refine wpAnyH_take (i := 3) (oi := zo3) (v := ?v75_) rfl (by kernel_rfl) (by kernel_rfl) (by kernel_rfl) (fun _ _ _ h => h) (Or.inl ⟨by rfl, ?y75_⟩) hHeld ?r75_
       case y75_ => (intro w_ hSw_; (try dsimp only at hSw_); go_simp; try with_reducible rfl)
       (try simp only [Act.put, qsA, qsB, qsC])
       refine wpAnyH_ready (rs := [4]) (by kernel_rfl) (by simp) ?_
       refine AllReadyH.cons (o := zo33) rfl (fun K hK => ?_) AllReadyH.nil
       go_simp
       (go_at_call 55; (with_reducible refine (name_May.calls x.f0 true _ V1.out).mono ?_); rintro e w5 ⟨rfl, hb5⟩; have HB5 := qas (below_then (qbB HB4.out _) (Nat.le_refl _) hb5); clear hb5)
       try go_wp2_with fail
       clear hHeld
       refine hK.out _ _ ?s76_ (fun hHeld => ?r76_)
       case s76_ => exact hH.out _ (by with_reducible repeat (first | exact HB7.out | exact HB6.out | exact HB5.out | exact HB4.out | apply qbA | apply qbB | apply qbC))
       clear hK K
       (try simp only [Act.put, qsA, qsB, qsC])
       refine wpAnyH_take (i := 5) (oi := zo4) (v := ?v77_) rfl (by kernel_rfl) (by kernel_rfl) (by kernel_rfl) (fun _ _ _ h => h) (Or.inl ⟨by rfl, ?y77_⟩) hHeld ?r77_
       case y77_ => (intro w_ hSw_; (try dsimp only at hSw_); go_simp; try with_reducible rfl)
       (try simp only [Act.put, qsA, qsB, qsC])
       refine wpAnyH_take (i := 6) (oi := zo5) (v := ?v78_) rfl (by kernel_rfl) (by kernel_rfl) (by kernel_rfl) (fun _ _ _ h => h) (Or.inl ⟨by rfl, ?y78_⟩) hHeld ?r78_
       case y78_ => (intro w_ hSw_; (try dsimp only at hSw_); go_simp; try with_reducible rfl)
       (try simp only [Act.put, qsA, qsB, qsC])
       refine wpAnyH_take (i := 7) (oi := zo6) (v := ?v79_) rfl (by kernel_rfl) (by kernel_rfl) (by kernel_rfl) (fun _ _ _ h => h) (Or.inl ⟨by rfl, ?y79_⟩) hHeld ?r79_
       case y79_ => (intro w_ hSw_; (try dsimp only at hSw_); go_simp; try with_reducible rfl)
       (try simp only [Act.put, qsA, qsB, qsC])
       refine wpAnyH_take (i := 8) (oi := zo7) (v := ?v80_) rfl (by kernel_rfl) (by kernel_rfl) (by kernel_rfl) (fun _ _ _ h => h) (Or.inl ⟨by rfl, ?y80_⟩) hHeld ?r80_
       case y80_ => (intro w_ hSw_; (try dsimp only at hSw_); go_simp; try with_reducible rfl)
       (try simp only [Act.put, qsA, qsB, qsC])
       refine wpAnyH_take (i := 9) (oi := zo8) (v := ?v81_) rfl (by kernel_rfl) (by kernel_rfl) (by kernel_rfl) (fun _ _ _ h => h) (Or.inl ⟨by rfl, ?y81_⟩) hHeld ?r81_
       case y81_ => (intro w_ hSw_; (try dsimp only at hSw_); go_simp; try with_reducible rfl)
       (try simp only [Act.put, qsA, qsB, qsC])
       refine wpAnyH_take (i := 10) (oi := zo9) (v := undef) rfl (by kernel_rfl) (by kernel_rfl) (by kernel_rfl) (fun _ _ _ h => h) (Or.inr ⟨by rfl, rfl⟩) hHeld ?r82_
       (try simp only [Act.put, qsA, qsB, qsC])
       refine wpAnyH_take (i := 11) (oi := zo10) (v := undef) rfl (by kernel_rfl) (by kernel_rfl) (by kernel_rfl) (fun _ _ _ h => h) (Or.inr ⟨by rfl, rfl⟩) hHeld ?r83_
       (try simp only [Act.put, qsA, qsB, qsC])
       refine wpAnyH_take (i := 12) (oi := zo11) (v := undef) rfl (by kernel_rfl) (by kernel_rfl) (by kernel_rfl) (fun _ _ _ h => h) (Or.inr ⟨by rfl, rfl⟩) hHeld ?r84_
       (try simp only [Act.put, qsA, qsB, qsC])
       refine wpAnyH_take (i := 13) (oi := zo12) (v := undef) rfl (by kernel_rfl) (by kernel_rfl) (by kernel_rfl) (fun _ _ _ h => h) (Or.inr ⟨by rfl, rfl⟩) hHeld ?r85_
       (try simp only [Act.put, qsA, qsB, qsC])
       refine wpAnyH_take (i := 14) (oi := zo13) (v := undef) rfl (by kernel_rfl) (by kernel_rfl) (by kernel_rfl) (fun _ _ _ h => h) (Or.inr ⟨by rfl, rfl⟩) hHeld ?r86_
       (try simp only [Act.put, qsA, qsB, qsC])
       refine wpAnyH_take (i := 15) (oi := zo14) (v := undef) rfl (by kernel_rfl) (by kernel_rfl) (by kernel_rfl) (fun _ _ _ h => h) (Or.inr ⟨by rfl, rfl⟩) hHeld ?r87_
       (try simp only [Act.put, qsA, qsB, qsC])
       refine wpAnyH_take (i := 16) (oi := zo15) (v := undef) rfl (by kernel_rfl) (by kernel_rfl) (by kernel_rfl) (fun _ _ _ h => h) (Or.inr ⟨by rfl, rfl⟩) hHeld ?r88_
       (try simp only [Act.put, qsA, qsB, qsC])
       refine wpAnyH_take (i := 17) (oi := zo16) (v := undef) rfl (by kernel_rfl) (by kernel_rfl) (by kernel_rfl) (fun _ _ _ h => h) (Or.inr ⟨by rfl, rfl⟩) hHeld ?r89_
       (try simp only [Act.put, qsA, qsB, qsC])
       refine wpAnyH_take (i := 18) (oi := zo17) (v := undef) rfl (by kernel_rfl) (by kernel_rfl) (by kernel_rfl) (fun _ _ _ h => h) (Or.inr ⟨by rfl, rfl⟩) hHeld ?r90_
       (try simp only [Act.put, qsA, qsB, qsC])
       refine wpAnyH_take (i := 19) (oi := zo18) (v := undef) rfl (by kernel_rfl) (by kernel_rfl) (by kernel_rfl) (fun _ _ _ h => h) (Or.inr ⟨by rfl, rfl⟩) hHeld ?r91_
       (try simp only [Act.put, qsA, qsB, qsC])
       refine wpAnyH_take (i := 20) (oi := zo19) (v := undef) rfl (by kernel_rfl) (by kernel_rfl) (by kernel_rfl) (fun _ _ _ h => h) (Or.inr ⟨by rfl, rfl⟩) hHeld ?r92_
       (try simp only [Act.put, qsA, qsB, qsC])
       refine wpAnyH_take (i := 21) (oi := zo20) (v := undef) rfl (by kernel_rfl) (by kernel_rfl) (by kernel_rfl) (fun _ _ _ h => h) (Or.inr ⟨by rfl, rfl⟩) hHeld ?r93_
       (try simp only [Act.put, qsA, qsB, qsC])
       refine wpAnyH_take (i := 22) (oi := zo21) (v := ?v94_) rfl (by kernel_rfl) (by kernel_rfl) (by kernel_rfl) (fun _ _ _ h => h) (Or.inl ⟨by rfl, ?y94_⟩) hHeld ?r94_
       case y94_ => (intro w_ hSw_; (try dsimp only at hSw_); go_simp; try with_reducible rfl)
       (try simp only [Act.put, qsA, qsB, qsC])
       refine wpAnyH_take (i := 23) (oi := zo22) (v := ?v95_) rfl (by kernel_rfl) (by kernel_rfl) (by kernel_rfl) (fun _ _ _ h => h) (Or.inl ⟨by rfl, ?y95_⟩) hHeld ?r95_
       case y95_ => (intro w_ hSw_; (try dsimp only at hSw_); go_simp; try with_reducible rfl)
       (try simp only [Act.put, qsA, qsB, qsC])
       refine wpAnyH_take (i := 24) (oi := zo23) (v := ?v96_) rfl (by kernel_rfl) (by kernel_rfl) (by kernel_rfl) (fun _ _ _ h => h) (Or.inl ⟨by rfl, ?y96_⟩) hHeld ?r96_
       case y96_ => (intro w_ hSw_; (try dsimp only at hSw_); go_simp; try with_reducible rfl)
       (try simp only [Act.put, qsA, qsB, qsC])
       refine wpAnyH_take (i := 25) (oi := zo24) (v := ?v97_) rfl (by kernel_rfl) (by kernel_rfl) (by kernel_rfl) (fun _ _ _ h => h) (Or.inl ⟨by rfl, ?y97_⟩) hHeld ?r97_
       case y97_ => (intro w_ hSw_; (try dsimp only at hSw_); go_simp; try with_reducible rfl)
       (try simp only [Act.put, qsA, qsB, qsC])
       refine wpAnyH_ready (rs := [26]) (by kernel_rfl) (by simp) ?_
       refine AllReadyH.cons (o := zo25) rfl (fun K hK => ?_) AllReadyH.nil
       go_simp
       (go_at_call 56; (with_reducible refine (emay_call _ p x A2 c2 (HE.out.below (by with_reducible repeat (first | exact HB6.out | exact HB5.out | exact HB4.out | apply qbA | apply qbB | apply qbC))) true V2.out).mono ?_); rintro e w6 ⟨rfl, hb6⟩; have HB6 := qas (below_then HB5.out (HB5.out).size hb6); clear hb6)
       try go_wp2_with fail
       clear hHeld
       refine hK.out _ _ ?s98_ (fun hHeld => ?r98_)
       case s98_ => exact hH.out _ (by with_reducible repeat (first | exact HB7.out | exact HB6.out | exact HB5.out | exact HB4.out | apply qbA | apply qbB | apply qbC))
       clear hK K
       (try simp only [Act.put, qsA, qsB, qsC])
       refine wpAnyH_take (i := 27) (oi := zo26) (v := ?v99_) rfl (by kernel_rfl) (by kernel_rfl) (by kernel_rfl) (fun _ _ _ h => h) (Or.inl ⟨by rfl, ?y99_⟩) hHeld ?r99_
       case y99_ => (intro w_ hSw_; (try dsimp only at hSw_); go_simp; try with_reducible rfl)
       (try simp only [Act.put, qsA, qsB, qsC])
       refine wpAnyH_take (i := 28) (oi := zo27) (v := ?v100_) rfl (by kernel_rfl) (by kernel_rfl) (by kernel_rfl) (fun _ _ _ h => h) (Or.inl ⟨by rfl, ?y100_⟩) hHeld ?r100_
       case y100_ => (intro w_ hSw_; (try dsimp only at hSw_); go_simp; try with_reducible rfl)
       (try simp only [Act.put, qsA, qsB, qsC])
       refine wpAnyH_take (i := 29) (oi := zo28) (v := ?v101_) rfl (by kernel_rfl) (by kernel_rfl) (by kernel_rfl) (fun _ _ _ h => h) (Or.inl ⟨by rfl, ?y101_⟩) hHeld ?r101_
       case y101_ => (intro w_ hSw_; (try dsimp only at hSw_); go_simp; try with_reducible rfl)
       (try simp only [Act.put, qsA, qsB, qsC])
       refine wpAnyH_take (i := 30) (oi := zo29) (v := ?v102_) rfl (by kernel_rfl) (by kernel_rfl) (by kernel_rfl) (fun _ _ _ h => h) (Or.inl ⟨by rfl, ?y102_⟩) hHeld ?r102_
       case y102_ => (intro w_ hSw_; (try dsimp only at hSw_); go_simp; try with_reducible rfl)
       (try simp only [Act.put, qsA, qsB, qsC])
       refine wpAnyH_ready (rs := [31]) (by kernel_rfl) (by simp) ?_
       refine AllReadyH.cons (o := zo30) rfl (fun K hK => ?_) AllReadyH.nil
       go_simp
       (go_at_call 57; (with_reducible refine (cont_call _ p x A2 c2 (HE.out.below (by with_reducible repeat (first | exact HB6.out | exact HB5.out | exact HB4.out | apply qbA | apply qbB | apply qbC))) false V3.out).mono ?_); rintro e w7 ⟨rfl, hb7⟩; have HB7 := qas (below_then HB6.out (HB6.out).size hb7); clear hb7)
       try go_wp2_with fail
       clear hHeld
       refine hK.out _ _ ?s103_ (fun hHeld => ?r103_)
       case s103_ => exact hH.out _ (by with_reducible repeat (first | exact HB7.out | exact HB6.out | exact HB5.out | exact HB4.out | apply qbA | apply qbB | apply qbC))
       clear hK K
       (try simp only [Act.put, qsA, qsB, qsC])
       refine wpAnyH_take (i := 32) (oi := zo31) (v := ?v104_) rfl (by kernel_rfl) (by kernel_rfl) (by kernel_rfl) (fun _ _ _ h => h) (Or.inl ⟨by rfl, ?y104_⟩) hHeld ?r104_
       case y104_ => (intro w_ hSw_; (try dsimp only at hSw_); go_simp; try with_reducible rfl)
       (try simp only [Act.put, qsA, qsB, qsC])
       refine wpAnyH_take (i := 33) (oi := zo32) (v := ?v105_) rfl (by kernel_rfl) (by kernel_rfl) (by kernel_rfl) (fun _ _ _ h => h) (Or.inl ⟨by rfl, ?y105_⟩) hHeld ?r105_
       case y105_ => (intro w_ hSw_; (try dsimp only at hSw_); go_simp; try with_reducible rfl)
       (try simp only [Act.put, qsA, qsB, qsC])
       refine wpAnyH_done (by kernel_rfl) ?_ _
       go_wp2_with fail
       go_ret
       have hres : mayL xs = false := HMX.out (by rw [HMA.out, W1.out, HMZ.out, V2.out, V3.out]; simp)
       rw [hres]
       exact ⟨rfl, by first | exact below_then HB.out HB.out.size HB7.out | (rw [← hg]; exact below_then HB.out HB.out.size HB7.out)⟩
      | true =>
       have V3 := qas v3
       clear v3
       go_wp2_with fail
       refine wp_region_held_drew (S := (fun W => W.cell? ⟨g, 0, none⟩ = some (.slice (some ad) xs.length c) ∧ W.cell? p = some (.string x.f0) ∧ Below wr.heap.size wr W)) (by kernel_rfl) ?s106_ (fun hHeld => ?r106_)
       case s106_ => exact hH.out _ (by with_reducible repeat (first | exact HB7.out | exact HB6.out | exact HB5.out | exact HB4.out | apply qbA | apply qbB | apply qbC))
       refine wpAnyH_take (i := 0) (oi := zo0) (v := ?v107_) rfl (by kernel_rfl) (by kernel_rfl) (by kernel_rfl) (fun _ _ _ h => h) (Or.inl ⟨by rfl, ?y107_⟩) hHeld ?r107_
       case y107_ => (intro w_ hSw_; (try dsimp only at hSw_); go_simp; try with_reducible rfl)
       (try simp only [Act.put, qsA, qsB, qsC])
       refine wpAnyH_take (i := 1) (oi := zo1) (v := ?v108_) rfl (by kernel_rfl) (by kernel_rfl) (by kernel_rfl) (fun _ _ _ h => h) (Or.inl ⟨by rfl, ?y108_⟩) hHeld ?r108_
       case y108_ => (intro w_ hSw_; (try dsimp only at hSw_); go_simp; try with_reducible rfl)
       (try simp only [Act.put, qsA, qsB, qsC])
       refine wpAnyH_take (i := 2) (oi := zo2) (v := ?v109_) rfl (by kernel_rfl) (by kernel_rfl) (by kernel_rfl) (fun _ _ _ h => h) (Or.inl ⟨by rfl, ?y109_⟩) hHeld ?r109_
       case y109_ => (intro w_ hSw_; (try dsimp only at hSw_); go_simp; try with_reducible rfl)
       (try simp only [Act.put, qsA, qsB, qsC])
       refine wpAnyH_take (i := 3) (oi := zo3) (v := ?v110_) rfl (by kernel_rfl) (by kernel_rfl) (by kernel_rfl) (fun _ _ _ h => h) (Or.inl ⟨by rfl, ?y110_⟩) hHeld ?r110_
       case y110_ => (intro w_ hSw_; (try dsimp only at hSw_); go_simp; try with_reducible rfl)
       (try simp only [Act.put, qsA, qsB, qsC])
       refine wpAnyH_ready (rs := [4]) (by kernel_rfl) (by simp) ?_
       refine AllReadyH.cons (o := zo33) rfl (fun K hK => ?_) AllReadyH.nil
       go_simp
       (go_at_call 55; (with_reducible refine (name_May.calls x.f0 true _ V1.out).mono ?_); rintro e w5 ⟨rfl, hb5⟩; have HB5 := qas (below_then (qbB HB4.out _) (Nat.le_refl _) hb5); clear hb5)
       try go_wp2_with fail
       clear hHeld
       refine hK.out _ _ ?s111_ (fun hHeld => ?r111_)
       case s111_ => exact hH.out _ (by with_reducible repeat (first | exact HB7.out | exact HB6.out | exact HB5.out | exact HB4.out | apply qbA | apply qbB | apply qbC))
       clear hK K
       (try simp only [Act.put, qsA, qsB, qsC])
       refine wpAnyH_take (i := 5) (oi := zo4) (v := ?v112_) rfl (by kernel_rfl) (by kernel_rfl) (by kernel_rfl) (fun _ _ _ h => h) (Or.inl ⟨by rfl, ?y112_⟩) hHeld ?r112_
       case y112_ => (intro w_ hSw_; (try dsimp only at hSw_); go_simp; try with_reducible rfl)
       (try simp only [Act.put, qsA, qsB, qsC])
       refine wpAnyH_take (i := 6) (oi := zo5) (v := ?v113_) rfl (by kernel_rfl) (by kernel_rfl) (by kernel_rfl) (fun _ _ _ h => h) (Or.inl ⟨by rfl, ?y113_⟩) hHeld ?r113_
       case y113_ => (intro w_ hSw_; (try dsimp only at hSw_); go_simp; try with_reducible rfl)
       (try simp only [Act.put, qsA, qsB, qsC])
       refine wpAnyH_take (i := 7) (oi := zo6) (v := ?v114_) rfl (by kernel_rfl) (by kernel_rfl) (by kernel_rfl) (fun _ _ _ h => h) (Or.inl ⟨by rfl, ?y114_⟩) hHeld ?r114_
       case y114_ => (intro w_ hSw_; (try dsimp only at hSw_); go_simp; try with_reducible rfl)
       (try simp only [Act.put, qsA, qsB, qsC])
       refine wpAnyH_take (i := 8) (oi := zo7) (v := ?v115_) rfl (by kernel_rfl) (by kernel_rfl) (by kernel_rfl) (fun _ _ _ h => h) (Or.inl ⟨by rfl, ?y115_⟩) hHeld ?r115_
       case y115_ => (intro w_ hSw_; (try dsimp only at hSw_); go_simp; try with_reducible rfl)
       (try simp only [Act.put, qsA, qsB, qsC])
       refine wpAnyH_take (i := 9) (oi := zo8) (v := ?v116_) rfl (by kernel_rfl) (by kernel_rfl) (by kernel_rfl) (fun _ _ _ h => h) (Or.inl ⟨by rfl, ?y116_⟩) hHeld ?r116_
       case y116_ => (intro w_ hSw_; (try dsimp only at hSw_); go_simp; try with_reducible rfl)
       (try simp only [Act.put, qsA, qsB, qsC])
       refine wpAnyH_take (i := 10) (oi := zo9) (v := undef) rfl (by kernel_rfl) (by kernel_rfl) (by kernel_rfl) (fun _ _ _ h => h) (Or.inr ⟨by rfl, rfl⟩) hHeld ?r117_
       (try simp only [Act.put, qsA, qsB, qsC])
       refine wpAnyH_take (i := 11) (oi := zo10) (v := undef) rfl (by kernel_rfl) (by kernel_rfl) (by kernel_rfl) (fun _ _ _ h => h) (Or.inr ⟨by rfl, rfl⟩) hHeld ?r118_
       (try simp only [Act.put, qsA, qsB, qsC])
       refine wpAnyH_take (i := 12) (oi := zo11) (v := undef) rfl (by kernel_rfl) (by kernel_rfl) (by kernel_rfl) (fun _ _ _ h => h) (Or.inr ⟨by rfl, rfl⟩) hHeld ?r119_
       (try simp only [Act.put, qsA, qsB, qsC])
       refine wpAnyH_take (i := 13) (oi := zo12) (v := undef) rfl (by kernel_rfl) (by kernel_rfl) (by kernel_rfl) (fun _ _ _ h => h) (Or.inr ⟨by rfl, rfl⟩) hHeld ?r120_
       (try simp only [Act.put, qsA, qsB, qsC])
       refine wpAnyH_take (i := 14) (oi := zo13) (v := undef) rfl (by kernel_rfl) (by kernel_rfl) (by kernel_rfl) (fun _ _ _ h => h) (Or.inr ⟨by rfl, rfl⟩) hHeld ?r121_
       (try simp only [Act.put, qsA, qsB, qsC])
       refine wpAnyH_take (i := 15) (oi := zo14) (v := undef) rfl (by kernel_rfl) (by kernel_rfl) (by kernel_rfl) (fun _ _ _ h => h) (Or.inr ⟨by rfl, rfl⟩) hHeld ?r122_
       (try simp only [Act.put, qsA, qsB, qsC])
       refine wpAnyH_take (i := 16) (oi := zo15) (v := undef) rfl (by kernel_rfl) (by kernel_rfl) (by kernel_rfl) (fun _ _ _ h => h) (Or.inr ⟨by rfl, rfl⟩) hHeld ?r123_
       (try simp only [Act.put, qsA, qsB, qsC])
       refine wpAnyH_take (i := 17) (oi := zo16) (v := undef) rfl (by kernel_rfl) (by kernel_rfl) (by kernel_rfl) (fun _ _ _ h => h) (Or.inr ⟨by rfl, rfl⟩) hHeld ?r124_
       (try simp only [Act.put, qsA, qsB, qsC])
       refine wpAnyH_take (i := 18) (oi := zo17) (v := undef) rfl (by kernel_rfl) (by kernel_rfl) (by kernel_rfl) (fun _ _ _ h => h) (Or.inr ⟨by rfl, rfl⟩) hHeld ?r125_
       (try simp only [Act.put, qsA, qsB, qsC])
       refine wpAnyH_take (i := 19) (oi := zo18) (v := undef) rfl (by kernel_rfl) (by kernel_rfl) (by kernel_rfl) (fun _ _ _ h => h) (Or.inr ⟨by rfl, rfl⟩) hHeld ?r126_
       (try simp only [Act.put, qsA, qsB, qsC])
       refine wpAnyH_take (i := 20) (oi := zo19) (v := undef) rfl (by kernel_rfl) (by kernel_rfl) (by kernel_rfl) (fun _ _ _ h => h) (Or.inr ⟨by rfl, rfl⟩) hHeld ?r127_
       (try simp only [Act.put, qsA, qsB, qsC])
       refine wpAnyH_take (i := 21) (oi := zo20) (v := undef) rfl (by kernel_rfl) (by kernel_rfl) (by kernel_rfl) (fun _ _ _ h => h) (Or.inr ⟨by rfl, rfl⟩) hHeld ?r128_
       (try simp only [Act.put, qsA, qsB, qsC])
       refine wpAnyH_take (i := 22) (oi := zo21) (v := ?v129_) rfl (by kernel_rfl) (by kernel_rfl) (by kernel_rfl) (fun _ _ _ h => h) (Or.inl ⟨by rfl, ?y129_⟩) hHeld ?r129_
       case y129_ => (intro w_ hSw_; (try dsimp only at hSw_); go_simp; try with_reducible rfl)
       (try simp only [Act.put, qsA, qsB, qsC])
       refine wpAnyH_take (i := 23) (oi := zo22) (v := ?v130_) rfl (by kernel_rfl) (by kernel_rfl) (by kernel_rfl) (fun _ _ _ h => h) (Or.inl ⟨by rfl, ?y130_⟩) hHeld ?r130_
       case y130_ => (intro w_ hSw_; (try dsimp only at hSw_); go_simp; try with_reducible rfl)
       (try simp only [Act.put, qsA, qsB, qsC])
       refine wpAnyH_take (i := 24) (oi := zo23) (v := ?v131_) rfl (by kernel_rfl) (by kernel_rfl) (by kernel_rfl) (fun _ _ _ h => h) (Or.inl ⟨by rfl, ?y131_⟩) hHeld ?r131_
       case y131_ => (intro w_ hSw_; (try dsimp only at hSw_); go_simp; try with_reducible rfl)
       (try simp only [Act.put, qsA, qsB, qsC])
       refine wpAnyH_take (i := 25) (oi := zo24) (v := ?v132_) rfl (by kernel_rfl) (by kernel_rfl) (by kernel_rfl) (fun _ _ _ h => h) (Or.inl ⟨by rfl, ?y132_⟩) hHeld ?r132_
       case y132_ => (intro w_ hSw_; (try dsimp only at hSw_); go_simp; try with_reducible rfl)
       (try simp only [Act.put, qsA, qsB, qsC])
       refine wpAnyH_ready (rs := [26]) (by kernel_rfl) (by simp) ?_
       refine AllReadyH.cons (o := zo25) rfl (fun K hK => ?_) AllReadyH.nil
       go_simp
       (go_at_call 56; (with_reducible refine (emay_call _ p x A2 c2 (HE.out.below (by with_reducible repeat (first | exact HB6.out | exact HB5.out | exact HB4.out | apply qbA | apply qbB | apply qbC))) true V2.out).mono ?_); rintro e w6 ⟨rfl, hb6⟩; have HB6 := qas (below_then HB5.out (HB5.out).size hb6); clear hb6)
       try go_wp2_with fail
       clear hHeld
       refine hK.out _ _ ?s133_ (fun hHeld => ?r133_)
       case s133_ => exact hH.out _ (by with_reducible repeat (first | exact HB7.out | exact HB6.out | exact HB5.out | exact HB4.out | apply qbA | apply qbB | apply qbC))
       clear hK K
       (try simp only [Act.put, qsA, qsB, qsC])
       refine wpAnyH_take (i := 27) (oi := zo26) (v := ?v134_) rfl (by kernel_rfl) (by kernel_rfl) (by kernel_rfl) (fun _ _ _ h => h) (Or.inl ⟨by rfl, ?y134_⟩) hHeld ?r134_
       case y134_ => (intro w_ hSw_; (try dsimp only at hSw_); go_simp; try with_reducible rfl)
       (try simp only [Act.put, qsA, qsB, qsC])
       refine wpAnyH_take (i := 28) (oi := zo27) (v := ?v135_) rfl (by kernel_rfl) (by kernel_rfl) (by kernel_rfl) (fun _ _ _ h => h) (Or.inl ⟨by rfl, ?y135_⟩) hHeld ?r135_
       case y135_ => (intro w_ hSw_; (try dsimp only at hSw_); go_simp; try with_reducible rfl)
       (try simp only [Act.put, qsA, qsB, qsC])
       refine wpAnyH_take (i := 29) (oi := zo28) (v := ?v136_) rfl (by kernel_rfl) (by kernel_rfl) (by kernel_rfl) (fun _ _ _ h => h) (Or.inl ⟨by rfl, ?y136_⟩) hHeld ?r136_
       case y136_ => (intro w_ hSw_; (try dsimp only at hSw_); go_simp; try with_reducible rfl)
       (try simp only [Act.put, qsA, qsB, qsC])
       refine wpAnyH_take (i := 30) (oi := zo29) (v := ?v137_) rfl (by kernel_rfl) (by kernel_rfl) (by kernel_rfl) (fun _ _ _ h => h) (Or.inl ⟨by rfl, ?y137_⟩) hHeld ?r137_
       case y137_ => (intro w_ hSw_; (try dsimp only at hSw_); go_simp; try with_reducible rfl)
       (try simp only [Act.put, qsA, qsB, qsC])
       refine wpAnyH_ready (rs := [31]) (by kernel_rfl) (by simp) ?_
       refine AllReadyH.cons (o := zo30) rfl (fun K hK => ?_) AllReadyH.nil
       go_simp
       (go_at_call 57; (with_reducible refine (cont_call _ p x A2 c2 (HE.out.below (by with_reducible repeat (first | exact HB6.out | exact HB5.out | exact HB4.out | apply qbA | apply qbB | apply qbC))) true V3.out).mono ?_); rintro e w7 ⟨rfl, hb7⟩; have HB7 := qas (below_then HB6.out (HB6.out).size hb7); clear hb7)
       try go_wp2_with fail
       clear hHeld
       refine hK.out _ _ ?s138_ (fun hHeld => ?r138_)
       case s138_ => exact hH.out _ (by with_reducible repeat (first | exact HB7.out | exact HB6.out | exact HB5.out | exact HB4.out | apply qbA | apply qbB | apply qbC))
       clear hK K
       (try simp only [Act.put, qsA, qsB, qsC])
       refine wpAnyH_take (i := 32) (oi := zo31) (v := ?v139_) rfl (by kernel_rfl) (by kernel_rfl) (by kernel_rfl) (fun _ _ _ h => h) (Or.inl ⟨by rfl, ?y139_⟩) hHeld ?r139_
       case y139_ => (intro w_ hSw_; (try dsimp only at hSw_); go_simp; try with_reducible rfl)
       (try simp only [Act.put, qsA, qsB, qsC])
       refine wpAnyH_take (i := 33) (oi := zo32) (v := ?v140_) rfl (by kernel_rfl) (by kernel_rfl) (by kernel_rfl) (fun _ _ _ h => h) (Or.inl ⟨by rfl, ?y140_⟩) hHeld ?r140_
       case y140_ => (intro w_ hSw_; (try dsimp only at hSw_); go_simp; try with_reducible rfl)
       (try simp only [Act.put, qsA, qsB, qsC])
       refine wpAnyH_done (by kernel_rfl) ?_ _
       go_wp2_with fail
       have hma : mayAt xs i = true := by rw [HMA.out, W1.out, HMZ.out, V2.out, V3.out]; simp
       exact ⟨⟨i + 1, rfl, by omega, ⟨by rw [List.range_succ, List.all_append, HA.out, Bool.true_and]; simp [hma]⟩, ⟨below_then HB.out HB.out.size HB7.out⟩, ⟨(HB7.out.block g (blk_lt HG.out)).trans HG.out⟩⟩, by show xs.length - ((i : Int) + 1).toNat < xs.length - (i : Int).toNat; omega⟩
   ·obtain ⟨j, hj⟩ : ∃ j, j + 1 = i := ⟨i - 1, by omega⟩
    have hw2 := hw1 j hj.symm
    have hii : decide (0 < i) = true := decide_eq_true hz
    obtain ⟨ad', A3, c3, e1, hE1⟩ := ent_at HR0.out j (by omega)
    have e1 := Option.some.inj e1
    subst e1
    have HP := qas ((hE1.below HB.out).h0)
    obtain ⟨y, hy⟩ : ∃ y, (rd_T39 xs (j : Int)).f0 = y := ⟨_, rfl⟩
    rw [hy] at HP
    have HRI : Aside0 (rises xs i = Op.bytesLess y.toList x.f0.toList) := ⟨by unfold rises; rw [show (i : Int) - 1 = (j : Int) by omega, hy, HX.out]⟩
    obtain ⟨r, hr⟩ : ∃ r, ad.add (j * 9) = r := ⟨_, rfl⟩
    rw [hr] at HP
    have hj0 : (0 : Int) ≤ (j : Int) := by omega
    have hj1 : (j : Int) ≤ 9223372036854775807 := by omega
    have hj2 : (j : Int) < (xs.length : Int) := by omega
    have HZ : Aside0 (decide (i = 0) = false) := ⟨decide_eq_false (by omega)⟩
    have hH : Aside0 (∀ W, Below wr.heap.size wr W → W.cell? ⟨g, 0, none⟩ = some (.slice (some ad) xs.length c) ∧ W.cell? p = some (.string x.f0) ∧ W.cell? r = some (.string y) ∧ Below wr.heap.size wr W) := ⟨fun W hW => ⟨pw_cell_below hW ((blk_cell HG.out 0).trans rfl), pw_cell_below hW HE.out.h0, pw_cell_below hW HP.out, hW⟩⟩
    clear hy hE1 e1 hj hw1
    cases v1 : nm x.f0.data.toList with
    | false =>
     have W1 := qas v1
     have V1 : Aside0 (name_May.f x.f0 = some false) := ⟨by rw [name_any, v1]⟩
     clear v1
     go_wp2_with fail
     refine wp_region_held_drew (S := (fun W => W.cell? ⟨g, 0, none⟩ = some (.slice (some ad) xs.length c) ∧ W.cell? p = some (.string x.f0) ∧ W.cell? r = some (.string y) ∧ Below wr.heap.size wr W)) (by kernel_rfl) ?s141_ (fun hHeld => ?r141_)
     case s141_ => exact hH.out _ (by with_reducible repeat (first | exact HB7.out | exact HB6.out | exact HB5.out | exact HB4.out | apply qbA | apply qbB | apply qbC))
     refine wpAnyH_take (i := 0) (oi := zo0) (v := ?v142_) rfl (by kernel_rfl) (by kernel_rfl) (by kernel_rfl) (fun _ _ _ h => h) (Or.inl ⟨by rfl, ?y142_⟩) hHeld ?r142_
     case y142_ => (intro w_ hSw_; (try dsimp only at hSw_); go_simp; try with_reducible rfl)
     (try simp only [Act.put, qsA, qsB, qsC])
     refine wpAnyH_take (i := 1) (oi := zo1) (v := ?v143_) rfl (by kernel_rfl) (by kernel_rfl) (by kernel_rfl) (fun _ _ _ h => h) (Or.inl ⟨by rfl, ?y143_⟩) hHeld ?r143_
     case y143_ => (intro w_ hSw_; (try dsimp only at hSw_); go_simp; try with_reducible rfl)
     (try simp only [Act.put, qsA, qsB, qsC])
     refine wpAnyH_take (i := 2) (oi := zo2) (v := ?v144_) rfl (by kernel_rfl) (by kernel_rfl) (by kernel_rfl) (fun _ _ _ h => h) (Or.inl ⟨by rfl, ?y144_⟩) hHeld ?r144_
     case y144_ => (intro w_ hSw_; (try dsimp only at hSw_); go_simp; try with_reducible rfl)
     (try simp only [Act.put, qsA, qsB, qsC])
     refine wpAnyH_take (i := 3) (oi := zo3) (v := ?v145_) rfl (by kernel_rfl) (by kernel_rfl) (by kernel_rfl) (fun _ _ _ h => h) (Or.inl ⟨by rfl, ?y145_⟩) hHeld ?r145_
     case y145_ => (intro w_ hSw_; (try dsimp only at hSw_); go_simp; try with_reducible rfl)
     (try simp only [Act.put, qsA, qsB, qsC])
     refine wpAnyH_ready (rs := [4]) (by kernel_rfl) (by simp) ?_
     refine AllReadyH.cons (o := zo33) rfl (fun K hK => ?_) AllReadyH.nil
     go_simp
     (go_at_call 55; (with_reducible refine (name_May.calls x.f0 false _ V1.out).mono ?_); rintro e w5 ⟨rfl, hb5⟩; have HB5 := qas (below_then (qbB HB4.out _) (Nat.le_refl _) hb5); clear hb5)
     try go_wp2_with fail
     clear hHeld
     refine hK.out _ _ ?s146_ (fun hHeld => ?r146_)
     case s146_ => exact hH.out _ (by with_reducible repeat (first | exact HB7.out | exact HB6.out | exact HB5.out | exact HB4.out | apply qbA | apply qbB | apply qbC))
     clear hK K
     (try simp only [Act.put, qsA, qsB, qsC])
     refine wpAnyH_take (i := 5) (oi := zo4) (v := ?v147_) rfl (by kernel_rfl) (by kernel_rfl) (by kernel_rfl) (fun _ _ _ h => h) (Or.inl ⟨by rfl, ?y147_⟩) hHeld ?r147_
     case y147_ => (intro w_ hSw_; (try dsimp only at hSw_); go_simp; try with_reducible rfl)
     (try simp only [Act.put, qsA, qsB, qsC])
     refine wpAnyH_take (i := 6) (oi := zo5) (v := ?v148_) rfl (by kernel_rfl) (by kernel_rfl) (by kernel_rfl) (fun _ _ _ h => h) (Or.inl ⟨by rfl, ?y148_⟩) hHeld ?r148_
     case y148_ => (intro w_ hSw_; (try dsimp only at hSw_); go_simp; try with_reducible rfl)
     (try simp only [Act.put, qsA, qsB, qsC])
     refine wpAnyH_take (i := 7) (oi := zo6) (v := undef) rfl (by kernel_rfl) (by kernel_rfl) (by kernel_rfl) (fun _ _ _ h => h) (Or.inr ⟨by rfl, rfl⟩) hHeld ?r149_
     (try simp only [Act.put, qsA, qsB, qsC])
     refine wpAnyH_take (i := 8) (oi := zo7) (v := undef) rfl (by kernel_rfl) (by kernel_rfl) (by kernel_rfl) (fun _ _ _ h => h) (Or.inr ⟨by rfl, rfl⟩) hHeld ?r150_
     (try simp only [Act.put, qsA, qsB, qsC])
     refine wpAnyH_take (i := 9) (oi := zo8) (v := undef) rfl (by kernel_rfl) (by kernel_rfl) (by kernel_rfl) (fun _ _ _ h => h) (Or.inr ⟨by rfl, rfl⟩) hHeld ?r151_
     (try simp only [Act.put, qsA, qsB, qsC])
     refine wpAnyH_take (i := 10) (oi := zo9) (v := undef) rfl (by kernel_rfl) (by kernel_rfl) (by kernel_rfl) (fun _ _ _ h => h) (Or.inr ⟨by rfl, rfl⟩) hHeld ?r152_
     (try simp only [Act.put, qsA, qsB, qsC])
     refine wpAnyH_take (i := 11) (oi := zo10) (v := undef) rfl (by kernel_rfl) (by kernel_rfl) (by kernel_rfl) (fun _ _ _ h => h) (Or.inr ⟨by rfl, rfl⟩) hHeld ?r153_
     (try simp only [Act.put, qsA, qsB, qsC])
     refine wpAnyH_take (i := 12) (oi := zo11) (v := undef) rfl (by kernel_rfl) (by kernel_rfl) (by kernel_rfl) (fun _ _ _ h => h) (Or.inr ⟨by rfl, rfl⟩) hHeld ?r154_
     (try simp only [Act.put, qsA, qsB, qsC])
     refine wpAnyH_take (i := 13) (oi := zo12) (v := undef) rfl (by kernel_rfl) (by kernel_rfl) (by kernel_rfl) (fun _ _ _ h => h) (Or.inr ⟨by rfl, rfl⟩) hHeld ?r155_
     (try simp only [Act.put, qsA, qsB, qsC])
     refine wpAnyH_take (i := 14) (oi := zo13) (v := undef) rfl (by kernel_rfl) (by kernel_rfl) (by kernel_rfl) (fun _ _ _ h => h) (Or.inr ⟨by rfl, rfl⟩) hHeld ?r156_
     (try simp only [Act.put, qsA, qsB, qsC])
     refine wpAnyH_take (i := 15) (oi := zo14) (v := undef) rfl (by kernel_rfl) (by kernel_rfl) (by kernel_rfl) (fun _ _ _ h => h) (Or.inr ⟨by rfl, rfl⟩) hHeld ?r157_
     (try simp only [Act.put, qsA, qsB, qsC])
     refine wpAnyH_take (i := 16) (oi := zo15) (v := undef) rfl (by kernel_rfl) (by kernel_rfl) (by kernel_rfl) (fun _ _ _ h => h) (Or.inr ⟨by rfl, rfl⟩) hHeld ?r158_
     (try simp only [Act.put, qsA, qsB, qsC])
     refine wpAnyH_take (i := 17) (oi := zo16) (v := undef) rfl (by kernel_rfl) (by kernel_rfl) (by kernel_rfl) (fun _ _ _ h => h) (Or.inr ⟨by rfl, rfl⟩) hHeld ?r159_
     (try simp only [Act.put, qsA, qsB, qsC])
     refine wpAnyH_take (i := 18) (oi := zo17) (v := undef) rfl (by kernel_rfl) (by kernel_rfl) (by kernel_rfl) (fun _ _ _ h => h) (Or.inr ⟨by rfl, rfl⟩) hHeld ?r160_
     (try simp only [Act.put, qsA, qsB, qsC])
     refine wpAnyH_take (i := 19) (oi := zo18) (v := undef) rfl (by kernel_rfl) (by kernel_rfl) (by kernel_rfl) (fun _ _ _ h => h) (Or.inr ⟨by rfl, rfl⟩) hHeld ?r161_
     (try simp only [Act.put, qsA, qsB, qsC])
     refine wpAnyH_take (i := 20) (oi := zo19) (v := undef) rfl (by kernel_rfl) (by kernel_rfl) (by kernel_rfl) (fun _ _ _ h => h) (Or.inr ⟨by rfl, rfl⟩) hHeld ?r162_
     (try simp only [Act.put, qsA, qsB, qsC])
     refine wpAnyH_take (i := 21) (oi := zo20) (v := undef) rfl (by kernel_rfl) (by kernel_rfl) (by kernel_rfl) (fun _ _ _ h => h) (Or.inr ⟨by rfl, rfl⟩) hHeld ?r163_
     (try simp only [Act.put, qsA, qsB, qsC])
     refine wpAnyH_take (i := 22) (oi := zo21) (v := undef) rfl (by kernel_rfl) (by kernel_rfl) (by kernel_rfl) (fun _ _ _ h => h) (Or.inr ⟨by rfl, rfl⟩) hHeld ?r164_
     (try simp only [Act.put, qsA, qsB, qsC])
     refine wpAnyH_take (i := 23) (oi := zo22) (v := ?v165_) rfl (by kernel_rfl) (by kernel_rfl) (by kernel_rfl) (fun _ _ _ h => h) (Or.inl ⟨by rfl, ?y165_⟩) hHeld ?r165_
     case y165_ => (intro w_ hSw_; (try dsimp only at hSw_); go_simp; try with_reducible rfl)
     (try simp only [Act.put, qsA, qsB, qsC])
     refine wpAnyH_take (i := 24) (oi := zo23) (v := ?v166_) rfl (by kernel_rfl) (by kernel_rfl) (by kernel_rfl) (fun _ _ _ h => h) (Or.inl ⟨by rfl, ?y166_⟩) hHeld ?r166_
     case y166_ => (intro w_ hSw_; (try dsimp only at hSw_); go_simp; try with_reducible rfl)
     (try simp only [Act.put, qsA, qsB, qsC])
     refine wpAnyH_take (i := 25) (oi := zo24) (v := undef) rfl (by kernel_rfl) (by kernel_rfl) (by kernel_rfl) (fun _ _ _ h => h) (Or.inr ⟨by rfl, rfl⟩) hHeld ?r167_
     (try simp only [Act.put, qsA, qsB, qsC])
     refine wpAnyH_take (i := 26) (oi := zo25) (v := undef) rfl (by kernel_rfl) (by kernel_rfl) (by kernel_rfl) (fun _ _ _ h => h) (Or.inr ⟨by rfl, rfl⟩) hHeld ?r168_
     (try simp only [Act.put, qsA, qsB, qsC])
     refine wpAnyH_take (i := 27) (oi := zo26) (v := undef) rfl (by kernel_rfl) (by kernel_rfl) (by kernel_rfl) (fun _ _ _ h => h) (Or.inr ⟨by rfl, rfl⟩) hHeld ?r169_
     (try simp only [Act.put, qsA, qsB, qsC])
     refine wpAnyH_take (i := 28) (oi := zo27) (v := ?v170_) rfl (by kernel_rfl) (by kernel_rfl) (by kernel_rfl) (fun _ _ _ h => h) (Or.inl ⟨by rfl, ?y170_⟩) hHeld ?r170_
     case y170_ => (intro w_ hSw_; (try dsimp only at hSw_); go_simp; try with_reducible rfl)
     (try simp only [Act.put, qsA, qsB, qsC])
     refine wpAnyH_take (i := 29) (oi := zo28) (v := ?v171_) rfl (by kernel_rfl) (by kernel_rfl) (by kernel_rfl) (fun _ _ _ h => h) (Or.inl ⟨by rfl, ?y171_⟩) hHeld ?r171_
     case y171_ => (intro w_ hSw_; (try dsimp only at hSw_); go_simp; try with_reducible rfl)
     (try simp only [Act.put, qsA, qsB, qsC])
     refine wpAnyH_take (i := 30) (oi := zo29) (v := undef) rfl (by kernel_rfl) (by kernel_rfl) (by kernel_rfl) (fun _ _ _ h => h) (Or.inr ⟨by rfl, rfl⟩) hHeld ?r172_
     (try simp only [Act.put, qsA, qsB, qsC])
     refine wpAnyH_take (i := 31) (oi := zo30) (v := undef) rfl (by kernel_rfl) (by kernel_rfl) (by kernel_rfl) (fun _ _ _ h => h) (Or.inr ⟨by rfl, rfl⟩) hHeld ?r173_
     (try simp only [Act.put, qsA, qsB, qsC])
     refine wpAnyH_take (i := 32) (oi := zo31) (v := undef) rfl (by kernel_rfl) (by kernel_rfl) (by kernel_rfl) (fun _ _ _ h => h) (Or.inr ⟨by rfl, rfl⟩) hHeld ?r174_
     (try simp only [Act.put, qsA, qsB, qsC])
     refine wpAnyH_take (i := 33) (oi := zo32) (v := ?v175_) rfl (by kernel_rfl) (by kernel_rfl) (by kernel_rfl) (fun _ _ _ h => h) (Or.inl ⟨by rfl, ?y175_⟩) hHeld ?r175_
     case y175_ => (intro w_ hSw_; (try dsimp only at hSw_); go_simp; try with_reducible rfl)
     (try simp only [Act.put, qsA, qsB, qsC])
     refine wpAnyH_done (by kernel_rfl) ?_ _
     go_wp2_with fail
     go_ret
     have hres : mayL xs = false := HMX.out (by rw [HMA.out, W1.out]; simp)
     rw [hres]
     exact ⟨rfl, by first | exact below_then HB.out HB.out.size HB5.out | (rw [← hg]; exact below_then HB.out HB.out.size HB5.out)⟩
    | true =>
     have W1 := qas v1
     have V1 : Aside0 (name_May.f x.f0 = some true) := ⟨by rw [name_any, v1]⟩
     clear v1
     cases hle : Op.bytesLess y.toList x.f0.toList with
     | false =>
      have HLE := qas hle
      go_wp2_with fail
      refine wp_region_held_drew (S := (fun W => W.cell? ⟨g, 0, none⟩ = some (.slice (some ad) xs.length c) ∧ W.cell? p = some (.string x.f0) ∧ W.cell? r = some (.string y) ∧ Below wr.heap.size wr W)) (by kernel_rfl) ?s176_ (fun hHeld => ?r176_)
      case s176_ => exact hH.out _ (by with_reducible repeat (first | exact HB7.out | exact HB6.out | exact HB5.out | exact HB4.out | apply qbA | apply qbB | apply qbC))
      refine wpAnyH_take (i := 0) (oi := zo0) (v := ?v177_) rfl (by kernel_rfl) (by kernel_rfl) (by kernel_rfl) (fun _ _ _ h => h) (Or.inl ⟨by rfl, ?y177_⟩) hHeld ?r177_
      case y177_ => (intro w_ hSw_; (try dsimp only at hSw_); go_simp; try with_reducible rfl)
      (try simp only [Act.put, qsA, qsB, qsC])
      refine wpAnyH_take (i := 1) (oi := zo1) (v := ?v178_) rfl (by kernel_rfl) (by kernel_rfl) (by kernel_rfl) (fun _ _ _ h => h) (Or.inl ⟨by rfl, ?y178_⟩) hHeld ?r178_
      case y178_ => (intro w_ hSw_; (try dsimp only at hSw_); go_simp; try with_reducible rfl)
      (try simp only [Act.put, qsA, qsB, qsC])
      refine wpAnyH_take (i := 2) (oi := zo2) (v := ?v179_) rfl (by kernel_rfl) (by kernel_rfl) (by kernel_rfl) (fun _ _ _ h => h) (Or.inl ⟨by rfl, ?y179_⟩) hHeld ?r179_
      case y179_ => (intro w_ hSw_; (try dsimp only at hSw_); go_simp; try with_reducible rfl)
      (try simp only [Act.put, qsA, qsB, qsC])
      refine wpAnyH_take (i := 3) (oi := zo3) (v := ?v180_) rfl (by kernel_rfl) (by kernel_rfl) (by kernel_rfl) (fun _ _ _ h => h) (Or.inl ⟨by rfl, ?y180_⟩) hHeld ?r180_
      case y180_ => (intro w_ hSw_; (try dsimp only at hSw_); go_simp; try with_reducible rfl)
      (try simp only [Act.put, qsA, qsB, qsC])
      refine wpAnyH_ready (rs := [4]) (by kernel_rfl) (by simp) ?_
      refine AllReadyH.cons (o := zo33) rfl (fun K hK => ?_) AllReadyH.nil
      go_simp
      (go_at_call 55; (with_reducible refine (name_May.calls x.f0 true _ V1.out).mono ?_); rintro e w5 ⟨rfl, hb5⟩; have HB5 := qas (below_then (qbB HB4.out _) (Nat.le_refl _) hb5); clear hb5)
      try go_wp2_with fail
      clear hHeld
      refine hK.out _ _ ?s181_ (fun hHeld => ?r181_)
      case s181_ => exact hH.out _ (by with_reducible repeat (first | exact HB7.out | exact HB6.out | exact HB5.out | exact HB4.out | apply qbA | apply qbB | apply qbC))
      clear hK K
      (try simp only [Act.put, qsA, qsB, qsC])
      refine wpAnyH_take (i := 5) (oi := zo4) (v := ?v182_) rfl (by kernel_rfl) (by kernel_rfl) (by kernel_rfl) (fun _ _ _ h => h) (Or.inl ⟨by rfl, ?y182_⟩) hHeld ?r182_
      case y182_ => (intro w_ hSw_; (try dsimp only at hSw_); go_simp; try with_reducible rfl)
      (try simp only [Act.put, qsA, qsB, qsC])
      refine wpAnyH_take (i := 6) (oi := zo5) (v := ?v183_) rfl (by kernel_rfl) (by kernel_rfl) (by kernel_rfl) (fun _ _ _ h => h) (Or.inl ⟨by rfl, ?y183_⟩) hHeld ?r183_
      case y183_ => (intro w_ hSw_; (try dsimp only at hSw_); go_simp; try with_reducible rfl)
      (try simp only [Act.put, qsA, qsB, qsC])
      refine wpAnyH_take (i := 7) (oi := zo6) (v := ?v184_) rfl (by kernel_rfl) (by kernel_rfl) (by kernel_rfl) (fun _ _ _ h => h) (Or.inl ⟨by rfl, ?y184_⟩) hHeld ?r184_
      case y184_ => (intro w_ hSw_; (try dsimp only at hSw_); go_simp; try with_reducible rfl)
      (try simp only [Act.put, qsA, qsB, qsC])
      refine wpAnyH_take (i := 8) (oi := zo7) (v := ?v185_) rfl (by kernel_rfl) (by kernel_rfl) (by kernel_rfl) (fun _ _ _ h => h) (Or.inl ⟨by rfl, ?y185_⟩) hHeld ?r185_
      case y185_ => (intro w_ hSw_; (try dsimp only at hSw_); go_simp; try with_reducible rfl)
      (try simp only [Act.put, qsA, qsB, qsC])
      refine wpAnyH_take (i := 9) (oi := zo8) (v := ?v186_) rfl (by kernel_rfl) (by kernel_rfl) (by kernel_rfl) (fun _ _ _ h => h) (Or.inl ⟨by rfl, ?y186_⟩) hHeld ?r186_
      case y186_ => (intro w_ hSw_; (try dsimp only at hSw_); go_simp; try with_reducible rfl)
      (try simp only [Act.put, qsA, qsB, qsC])
      refine wpAnyH_take (i := 10) (oi := zo9) (v := ?v187_) rfl (by kernel_rfl) (by kernel_rfl) (by kernel_rfl) (fun _ _ _ h => h) (Or.inl ⟨by rfl, ?y187_⟩) hHeld ?r187_
      case y187_ => (intro w_ hSw_; (try dsimp only at hSw_); go_simp; try with_reducible rfl)
      (try simp only [Act.put, qsA, qsB, qsC])
      refine wpAnyH_take (i := 11) (oi := zo10) (v := ?v188_) rfl (by kernel_rfl) (by kernel_rfl) (by kernel_rfl) (fun _ _ _ h => h) (Or.inl ⟨by rfl, ?y188_⟩) hHeld ?r188_
      case y188_ => (intro w_ hSw_; (try dsimp only at hSw_); go_simp; try with_reducible rfl)
      (try simp only [Act.put, qsA, qsB, qsC])
      refine wpAnyH_take (i := 12) (oi := zo11) (v := ?v189_) rfl (by kernel_rfl) (by kernel_rfl) (by kernel_rfl) (fun _ _ _ h => h) (Or.inl ⟨by rfl, ?y189_⟩) hHeld ?r189_
      case y189_ => (intro w_ hSw_; (try dsimp only at hSw_); go_simp; try with_reducible rfl)
      (try simp only [Act.put, qsA, qsB, qsC])
      refine wpAnyH_take (i := 13) (oi := zo12) (v := ?v190_) rfl (by kernel_rfl) (by kernel_rfl) (by kernel_rfl) (fun _ _ _ h => h) (Or.inl ⟨by rfl, ?y190_⟩) hHeld ?r190_
      case y190_ => (intro w_ hSw_; (try dsimp only at hSw_); go_simp; try with_reducible rfl)
      (try simp only [Act.put, qsA, qsB, qsC])
      refine wpAnyH_take (i := 14) (oi := zo13) (v := ?v191_) rfl (by kernel_rfl) (by kernel_rfl) (by kernel_rfl) (fun _ _ _ h => h) (Or.inl ⟨by rfl, ?y191_⟩) hHeld ?r191_
      case y191_ => (intro w_ hSw_; (try dsimp only at hSw_); go_simp; try with_reducible rfl)
      (try simp only [Act.put, qsA, qsB, qsC])
      refine wpAnyH_take (i := 15) (oi := zo14) (v := ?v192_) rfl (by kernel_rfl) (by kernel_rfl) (by kernel_rfl) (fun _ _ _ h => h) (Or.inl ⟨by rfl, ?y192_⟩) hHeld ?r192_
      case y192_ => (intro w_ hSw_; (try dsimp only at hSw_); go_simp; try with_reducible rfl)
      (try simp only [Act.put, qsA, qsB, qsC])
      refine wpAnyH_take (i := 16) (oi := zo15) (v := ?v193_) rfl (by kernel_rfl) (by kernel_rfl) (by kernel_rfl) (fun _ _ _ h => h) (Or.inl ⟨by rfl, ?y193_⟩) hHeld ?r193_
      case y193_ => (intro w_ hSw_; (try dsimp only at hSw_); go_simp; try with_reducible rfl)
      (try simp only [Act.put, qsA, qsB, qsC])
      refine wpAnyH_take (i := 17) (oi := zo16) (v := ?v194_) rfl (by kernel_rfl) (by kernel_rfl) (by kernel_rfl) (fun _ _ _ h => h) (Or.inl ⟨by rfl, ?y194_⟩) hHeld ?r194_
      case y194_ => (intro w_ hSw_; (try dsimp only at hSw_); go_simp; try with_reducible rfl)
      (try simp only [Act.put, qsA, qsB, qsC])
      refine wpAnyH_take (i := 18) (oi := zo17) (v := ?v195_) rfl (by kernel_rfl) (by kernel_rfl) (by kernel_rfl) (fun _ _ _ h => h) (Or.inl ⟨by rfl, ?y195_⟩) hHeld ?r195_
      case y195_ => (intro w_ hSw_; (try dsimp only at hSw_); go_simp; try with_reducible rfl)
      (try simp only [Act.put, qsA, qsB, qsC])
      refine wpAnyH_take (i := 19) (oi := zo18) (v := ?v196_) rfl (by kernel_rfl) (by kernel_rfl) (by kernel_rfl) (fun _ _ _ h => h) (Or.inl ⟨by rfl, ?y196_⟩) hHeld ?r196_
      case y196_ => (intro w_ hSw_; (try dsimp only at hSw_); go_simp; try with_reducible rfl)
      (try simp only [Act.put, qsA, qsB, qsC])
      refine wpAnyH_take (i := 20) (oi := zo19) (v := ?v197_) rfl (by kernel_rfl) (by kernel_rfl) (by kernel_rfl) (fun _ _ _ h => h) (Or.inl ⟨by rfl, ?y197_⟩) hHeld ?r197_
      case y197_ => (intro w_ hSw_; (try dsimp only at hSw_); go_simp; try with_reducible rfl)
      (try simp only [Act.put, qsA, qsB, qsC])
      refine wpAnyH_take (i := 21) (oi := zo20) (v := ?v198_) rfl (by kernel_rfl) (by kernel_rfl) (by kernel_rfl) (fun _ _ _ h => h) (Or.inl ⟨by rfl, ?y198_⟩) hHeld ?r198_
      case y198_ => (intro w_ hSw_; (try dsimp only at hSw_); go_simp; try with_reducible rfl)
      (try simp only [Act.put, qsA, qsB, qsC])
      refine wpAnyH_take (i := 22) (oi := zo21) (v := ?v199_) rfl (by kernel_rfl) (by kernel_rfl) (by kernel_rfl) (fun _ _ _ h => h) (Or.inl ⟨by rfl, ?y199_⟩) hHeld ?r199_
      case y199_ => (intro w_ hSw_; (try dsimp only at hSw_); go_simp; try with_reducible rfl)
      (try simp only [Act.put, qsA, qsB, qsC])
      refine wpAnyH_take (i := 23) (oi := zo22) (v := ?v200_) rfl (by kernel_rfl) (by kernel_rfl) (by kernel_rfl) (fun _ _ _ h => h) (Or.inl ⟨by rfl, ?y200_⟩) hHeld ?r200_
      case y200_ => (intro w_ hSw_; (try dsimp only at hSw_); go_simp; try with_reducible rfl)
      (try simp only [Act.put, qsA, qsB, qsC])
      refine wpAnyH_take (i := 24) (oi := zo23) (v := ?v201_) rfl (by kernel_rfl) (by kernel_rfl) (by kernel_rfl) (fun _ _ _ h => h) (Or.inl ⟨by rfl, ?y201_⟩) hHeld ?r201_
      case y201_ => (intro w_ hSw_; (try dsimp only at hSw_); go_simp; try with_reducible rfl)
      (try simp only [Act.put, qsA, qsB, qsC])
      refine wpAnyH_take (i := 25) (oi := zo24) (v := undef) rfl (by kernel_rfl) (by kernel_rfl) (by kernel_rfl) (fun _ _ _ h => h) (Or.inr ⟨by rfl, rfl⟩) hHeld ?r202_
      (try simp only [Act.put, qsA, qsB, qsC])
      refine wpAnyH_take (i := 26) (oi := zo25) (v := undef) rfl (by kernel_rfl) (by kernel_rfl) (by kernel_rfl) (fun _ _ _ h => h) (Or.inr ⟨by rfl, rfl⟩) hHeld ?r203_
      (try simp only [Act.put, qsA, qsB, qsC])
      refine wpAnyH_take (i := 27) (oi := zo26) (v := undef) rfl (by kernel_rfl) (by kernel_rfl) (by kernel_rfl) (fun _ _ _ h => h) (Or.inr ⟨by rfl, rfl⟩) hHeld ?r204_
      (try simp only [Act.put, qsA, qsB, qsC])
      refine wpAnyH_take (i := 28) (oi := zo27) (v := ?v205_) rfl (by kernel_rfl) (by kernel_rfl) (by kernel_rfl) (fun _ _ _ h => h) (Or.inl ⟨by rfl, ?y205_⟩) hHeld ?r205_
      case y205_ => (intro w_ hSw_; (try dsimp only at hSw_); go_simp; try with_reducible rfl)
      (try simp only [Act.put, qsA, qsB, qsC])
      refine wpAnyH_take (i := 29) (oi := zo28) (v := ?v206_) rfl (by kernel_rfl) (by kernel_rfl) (by kernel_rfl) (fun _ _ _ h => h) (Or.inl ⟨by rfl, ?y206_⟩) hHeld ?r206_
      case y206_ => (intro w_ hSw_; (try dsimp only at hSw_); go_simp; try with_reducible rfl)
      (try simp only [Act.put, qsA, qsB, qsC])
      refine wpAnyH_take (i := 30) (oi := zo29) (v := undef) rfl (by kernel_rfl) (by kernel_rfl) (by kernel_rfl) (fun _ _ _ h => h) (Or.inr ⟨by rfl, rfl⟩) hHeld ?r207_
      (try simp only [Act.put, qsA, qsB, qsC])
      refine wpAnyH_take (i := 31) (oi := zo30) (v := undef) rfl (by kernel_rfl) (by kernel_rfl) (by kernel_rfl) (fun _ _ _ h => h) (Or.inr ⟨by rfl, rfl⟩) hHeld ?r208_
      (try simp only [Act.put, qsA, qsB, qsC])
      refine wpAnyH_take (i := 32) (oi := zo31) (v := undef) rfl (by kernel_rfl) (by kernel_rfl) (by kernel_rfl) (fun _ _ _ h => h) (Or.inr ⟨by rfl, rfl⟩) hHeld ?r209_
      (try simp only [Act.put, qsA, qsB, qsC])
      refine wpAnyH_take (i := 33) (oi := zo32) (v := ?v210_) rfl (by kernel_rfl) (by kernel_rfl) (by kernel_rfl) (fun _ _ _ h => h) (Or.inl ⟨by rfl, ?y210_⟩) hHeld ?r210_
      case y210_ => (intro w_ hSw_; (try dsimp only at hSw_); go_simp; try with_reducible rfl)
      (try simp only [Act.put, qsA, qsB, qsC])
      refine wpAnyH_done (by kernel_rfl) ?_ _
      go_wp2_with fail
      go_ret
      have hres : mayL xs = false := HMX.out (by rw [HMA.out, W1.out, HZ.out, HRI.out, HLE.out]; simp)
      rw [hres]
      exact ⟨rfl, by first | exact below_then HB.out HB.out.size HB5.out | (rw [← hg]; exact below_then HB.out HB.out.size HB5.out)⟩
     | true =>
      have HLE := qas hle
      cases v2 : mayE x.f2 x.f3 x.f4 with
      | false =>
       have V2 := qas v2
       clear v2
       go_wp2_with fail
       refine wp_region_held_drew (S := (fun W => W.cell? ⟨g, 0, none⟩ = some (.slice (some ad) xs.length c) ∧ W.cell? p = some (.string x.f0) ∧ W.cell? r = some (.string y) ∧ Below wr.heap.size wr W)) (by kernel_rfl) ?s211_ (fun hHeld => ?r211_)
       case s211_ => exact hH.out _ (by with_reducible repeat (first | exact HB7.out | exact HB6.out | exact HB5.out | exact HB4.out | apply qbA | apply qbB | apply qbC))
       refine wpAnyH_take (i := 0) (oi := zo0) (v := ?v212_) rfl (by kernel_rfl) (by kernel_rfl) (by kernel_rfl) (fun _ _ _ h => h) (Or.inl ⟨by rfl, ?y212_⟩) hHeld ?r212_
       case y212_ => (intro w_ hSw_; (try dsimp only at hSw_); go_simp; try with_reducible rfl)
       (try simp only [Act.put, qsA, qsB, qsC])
       refine wpAnyH_take (i := 1) (oi := zo1) (v := ?v213_) rfl (by kernel_rfl) (by kernel_rfl) (by kernel_rfl) (fun _ _ _ h => h) (Or.inl ⟨by rfl, ?y213_⟩) hHeld ?r213_
       case y213_ => (intro w_ hSw_; (try dsimp only at hSw_); go_simp; try with_reducible rfl)
       (try simp only [Act.put, qsA, qsB, qsC])
       refine wpAnyH_take (i := 2) (oi := zo2) (v := ?v214_) rfl (by kernel_rfl) (by kernel_rfl) (by kernel_rfl) (fun _ _ _ h => h) (Or.inl ⟨by rfl, ?y214_⟩) hHeld ?r214_
       case y214_ => (intro w_ hSw_; (try dsimp only at hSw_); go_simp; try with_reducible rfl)
       (try simp only [Act.put, qsA, qsB, qsC])
       refine wpAnyH_take (i := 3) (oi := zo3) (v := ?v215_) rfl (by kernel_rfl) (by kernel_rfl) (by kernel_rfl) (fun _ _ _ h => h) (Or.inl ⟨by rfl, ?y215_⟩) hHeld ?r215_
       case y215_ => (intro w_ hSw_; (try dsimp only at hSw_); go_simp; try with_reducible rfl)
       (try simp only [Act.put, qsA, qsB, qsC])
       refine wpAnyH_ready (rs := [4]) (by kernel_rfl) (by simp) ?_
       refine AllReadyH.cons (o := zo33) rfl (fun K hK => ?_) AllReadyH.nil
       go_simp
       (go_at_call 55; (with_reducible refine (name_May.calls x.f0 true _ V1.out).mono ?_); rintro e w5 ⟨rfl, hb5⟩; have HB5 := qas (below_then (qbB HB4.out _) (Nat.le_refl _) hb5); clear hb5)
       try go_wp2_with fail
       clear hHeld
       refine hK.out _ _ ?s216_ (fun hHeld => ?r216_)
       case s216_ => exact hH.out _ (by with_reducible repeat (first | exact HB7.out | exact HB6.out | exact HB5.out | exact HB4.out | apply qbA | apply qbB | apply qbC))
       clear hK K
       (try simp only [Act.put, qsA, qsB, qsC])
       refine wpAnyH_take (i := 5) (oi := zo4) (v := ?v217_) rfl (by kernel_rfl) (by kernel_rfl) (by kernel_rfl) (fun _ _ _ h => h) (Or.inl ⟨by rfl, ?y217_⟩) hHeld ?r217_
       case y217_ => (intro w_ hSw_; (try dsimp only at hSw_); go_simp; try with_reducible rfl)
       (try simp only [Act.put, qsA, qsB, qsC])
       refine wpAnyH_take (i := 6) (oi := zo5) (v := ?v218_) rfl (by kernel_rfl) (by kernel_rfl) (by kernel_rfl) (fun _ _ _ h => h) (Or.inl ⟨by rfl, ?y218_⟩) hHeld ?r218_
       case y218_ => (intro w_ hSw_; (try dsimp only at hSw_); go_simp; try with_reducible rfl)
       (try simp only [Act.put, qsA, qsB, qsC])
       refine wpAnyH_take (i := 7) (oi := zo6) (v := ?v219_) rfl (by kernel_rfl) (by kernel_rfl) (by kernel_rfl) (fun _ _ _ h => h) (Or.inl ⟨by rfl, ?y219_⟩) hHeld ?r219_
       case y219_ => (intro w_ hSw_; (try dsimp only at hSw_); go_simp; try with_reducible rfl)
       (try simp only [Act.put, qsA, qsB, qsC])
       refine wpAnyH_take (i := 8) (oi := zo7) (v := ?v220_) rfl (by kernel_rfl) (by kernel_rfl) (by kernel_rfl) (fun _ _ _ h => h) (Or.inl ⟨by rfl, ?y220_⟩) hHeld ?r220_
       case y220_ => (intro w_ hSw_; (try dsimp only at hSw_); go_simp; try with_reducible rfl)
       (try simp only [Act.put, qsA, qsB, qsC])
       refine wpAnyH_take (i := 9) (oi := zo8) (v := ?v221_) rfl (by kernel_rfl) (by kernel_rfl) (by kernel_rfl) (fun _ _ _ h => h) (Or.inl ⟨by rfl, ?y221_⟩) hHeld ?r221_
       case y221_ => (intro w_ hSw_; (try dsimp only at hSw_); go_simp; try with_reducible rfl)
       (try simp only [Act.put, qsA, qsB, qsC])
       refine wpAnyH_take (i := 10) (oi := zo9) (v := ?v222_) rfl (by kernel_rfl) (by kernel_rfl) (by kernel_rfl) (fun _ _ _ h => h) (Or.inl ⟨by rfl, ?y222_⟩) hHeld ?r222_
       case y222_ => (intro w_ hSw_; (try dsimp only at hSw_); go_simp; try with_reducible rfl)
       (try simp only [Act.put, qsA, qsB, qsC])
       refine wpAnyH_take (i := 11) (oi := zo10) (v := ?v223_) rfl (by kernel_rfl) (by kernel_rfl) (by kernel_rfl) (fun _ _ _ h => h) (Or.inl ⟨by rfl, ?y223_⟩) hHeld ?r223_
       case y223_ => (intro w_ hSw_; (try dsimp only at hSw_); go_simp; try with_reducible rfl)
       (try simp only [Act.put, qsA, qsB, qsC])
       refine wpAnyH_take (i := 12) (oi := zo11) (v := ?v224_) rfl (by kernel_rfl) (by kernel_rfl) (by kernel_rfl) (fun _ _ _ h => h) (Or.inl ⟨by rfl, ?y224_⟩) hHeld ?r224_
       case y224_ => (intro w_ hSw_; (try dsimp only at hSw_); go_simp; try with_reducible rfl)
       (try simp only [Act.put, qsA, qsB, qsC])
       refine wpAnyH_take (i := 13) (oi := zo12) (v := ?v225_) rfl (by kernel_rfl) (by kernel_rfl) (by kernel_rfl) (fun _ _ _ h => h) (Or.inl ⟨by rfl, ?y225_⟩) hHeld ?r225_
       case y225_ => (intro w_ hSw_; (try dsimp only at hSw_); go_simp; try with_reducible rfl)
       (try simp only [Act.put, qsA, qsB, qsC])
       refine wpAnyH_take (i := 14) (oi := zo13) (v := ?v226_) rfl (by kernel_rfl) (by kernel_rfl) (by kernel_rfl) (fun _ _ _ h => h) (Or.inl ⟨by rfl, ?y226_⟩) hHeld ?r226_
       case y226_ => (intro w_ hSw_; (try dsimp only at hSw_); go_simp; try with_reducible rfl)
       (try simp only [Act.put, qsA, qsB, qsC])
       refine wpAnyH_take (i := 15) (oi := zo14) (v := ?v227_) rfl (by kernel_rfl) (by kernel_rfl) (by kernel_rfl) (fun _ _ _ h => h) (Or.inl ⟨by rfl, ?y227_⟩) hHeld ?r227_
       case y227_ => (intro w_ hSw_; (try dsimp only at hSw_); go_simp; try with_reducible rfl)
       (try simp only [Act.put, qsA, qsB, qsC])
       refine wpAnyH_take (i := 16) (oi := zo15) (v := ?v228_) rfl (by kernel_rfl) (by kernel_rfl) (by kernel_rfl) (fun _ _ _ h => h) (Or.inl ⟨by rfl, ?y228_⟩) hHeld ?r228_
       case y228_ => (intro w_ hSw_; (try dsimp only at hSw_); go_simp; try with_reducible rfl)
       (try simp only [Act.put, qsA, qsB, qsC])
       refine wpAnyH_take (i := 17) (oi := zo16) (v := ?v229_) rfl (by kernel_rfl) (by kernel_rfl) (by kernel_rfl) (fun _ _ _ h => h) (Or.inl ⟨by rfl, ?y229_⟩) hHeld ?r229_
       case y229_ => (intro w_ hSw_; (try dsimp only at hSw_); go_simp; try with_reducible rfl)
       (try simp only [Act.put, qsA, qsB, qsC])
       refine wpAnyH_take (i := 18) (oi := zo17) (v := ?v230_) rfl (by kernel_rfl) (by kernel_rfl) (by kernel_rfl) (fun _ _ _ h => h) (Or.inl ⟨by rfl, ?y230_⟩) hHeld ?r230_
       case y230_ => (intro w_ hSw_; (try dsimp only at hSw_); go_simp; try with_reducible rfl)
       (try simp only [Act.put, qsA, qsB, qsC])
       refine wpAnyH_take (i := 19) (oi := zo18) (v := ?v231_) rfl (by kernel_rfl) (by kernel_rfl) (by kernel_rfl) (fun _ _ _ h => h) (Or.inl ⟨by rfl, ?y231_⟩) hHeld ?r231_
       case y231_ => (intro w_ hSw_; (try dsimp only at hSw_); go_simp; try with_reducible rfl)
       (try simp only [Act.put, qsA, qsB, qsC])
       refine wpAnyH_take (i := 20) (oi := zo19) (v := ?v232_) rfl (by kernel_rfl) (by kernel_rfl) (by kernel_rfl) (fun _ _ _ h => h) (Or.inl ⟨by rfl, ?y232_⟩) hHeld ?r232_
       case y232_ => (intro w_ hSw_; (try dsimp only at hSw_); go_simp; try with_reducible rfl)
       (try simp only [Act.put, qsA, qsB, qsC])
       refine wpAnyH_take (i := 21) (oi := zo20) (v := ?v233_) rfl (by kernel_rfl) (by kernel_rfl) (by kernel_rfl) (fun _ _ _ h => h) (Or.inl ⟨by rfl, ?y233_⟩) hHeld ?r233_
       case y233_ => (intro w_ hSw_; (try dsimp only at hSw_); go_simp; try with_reducible rfl)
       (try simp only [Act.put, qsA, qsB, qsC])
       refine wpAnyH_take (i := 22) (oi := zo21) (v := ?v234_) rfl (by kernel_rfl) (by kernel_rfl) (by kernel_rfl) (fun _ _ _ h => h) (Or.inl ⟨by rfl, ?y234_⟩) hHeld ?r234_
       case y234_ => (intro w_ hSw_; (try dsimp only at hSw_); go_simp; try with_reducible rfl)
       (try simp only [Act.put, qsA, qsB, qsC])
       refine wpAnyH_take (i := 23) (oi := zo22) (v := ?v235_) rfl (by kernel_rfl) (by kernel_rfl) (by kernel_rfl) (fun _ _ _ h => h) (Or.inl ⟨by rfl, ?y235_⟩) hHeld ?r235_
       case y235_ => (intro w_ hSw_; (try dsimp only at hSw_); go_simp; try with_reducible rfl)
       (try simp only [Act.put, qsA, qsB, qsC])
       refine wpAnyH_take (i := 24) (oi := zo23) (v := ?v236_) rfl (by kernel_rfl) (by kernel_rfl) (by kernel_rfl) (fun _ _ _ h => h) (Or.inl ⟨by rfl, ?y236_⟩) hHeld ?r236_
       case y236_ => (intro w_ hSw_; (try dsimp only at hSw_); go_simp; try with_reducible rfl)
       (try simp only [Act.put, qsA, qsB, qsC])
       refine wpAnyH_take (i := 25) (oi := zo24) (v := ?v237_) rfl (by kernel_rfl) (by kernel_rfl) (by kernel_rfl) (fun _ _ _ h => h) (Or.inl ⟨by rfl, ?y237_⟩) hHeld ?r237_
       case y237_ => (intro w_ hSw_; (try dsimp only at hSw_); go_simp; try with_reducible rfl)
       (try simp only [Act.put, qsA, qsB, qsC])
       refine wpAnyH_ready (rs := [26]) (by kernel_rfl) (by simp) ?_
       refine AllReadyH.cons (o := zo25) rfl (fun K hK => ?_) AllReadyH.nil
       go_simp
       (go_at_call 56; (with_reducible refine (emay_call _ p x A2 c2 (HE.out.below (by with_reducible repeat (first | exact HB6.out | exact HB5.out | exact HB4.out | apply qbA | apply qbB | apply qbC))) false V2.out).mono ?_); rintro e w6 ⟨rfl, hb6⟩; have HB6 := qas (below_then HB5.out (HB5.out).size hb6); clear hb6)
       try go_wp2_with fail
       clear hHeld
       refine hK.out _ _ ?s238_ (fun hHeld => ?r238_)
       case s238_ => exact hH.out _ (by with_reducible repeat (first | exact HB7.out | exact HB6.out | exact HB5.out | exact HB4.out | apply qbA | apply qbB | apply qbC))
       clear hK K
       (try simp only [Act.put, qsA, qsB, qsC])
       refine wpAnyH_take (i := 27) (oi := zo26) (v := ?v239_) rfl (by kernel_rfl) (by kernel_rfl) (by kernel_rfl) (fun _ _ _ h => h) (Or.inl ⟨by rfl, ?y239_⟩) hHeld ?r239_
       case y239_ => (intro w_ hSw_; (try dsimp only at hSw_); go_simp; try with_reducible rfl)
       (try simp only [Act.put, qsA, qsB, qsC])
       refine wpAnyH_take (i := 28) (oi := zo27) (v := ?v240_) rfl (by kernel_rfl) (by kernel_rfl) (by kernel_rfl) (fun _ _ _ h => h) (Or.inl ⟨by rfl, ?y240_⟩) hHeld ?r240_
       case y240_ => (intro w_ hSw_; (try dsimp only at hSw_); go_simp; try with_reducible rfl)
       (try simp only [Act.put, qsA, qsB, qsC])
       refine wpAnyH_take (i := 29) (oi := zo28) (v := ?v241_) rfl (by kernel_rfl) (by kernel_rfl) (by kernel_rfl) (fun _ _ _ h => h) (Or.inl ⟨by rfl, ?y241_⟩) hHeld ?r241_
       case y241_ => (intro w_ hSw_; (try dsimp only at hSw_); go_simp; try with_reducible rfl)
       (try simp only [Act.put, qsA, qsB, qsC])
       refine wpAnyH_take (i := 30) (oi := zo29) (v := undef) rfl (by kernel_rfl) (by kernel_rfl) (by kernel_rfl) (fun _ _ _ h => h) (Or.inr ⟨by rfl, rfl⟩) hHeld ?r242_
       (try simp only [Act.put, qsA, qsB, qsC])
       refine wpAnyH_take (i := 31) (oi := zo30) (v := undef) rfl (by kernel_rfl) (by kernel_rfl) (by kernel_rfl) (fun _ _ _ h => h) (Or.inr ⟨by rfl, rfl⟩) hHeld ?r243_
       (try simp only [Act.put, qsA, qsB, qsC])
       refine wpAnyH_take (i := 32) (oi := zo31) (v := undef) rfl (by kernel_rfl) (by kernel_rfl) (by kernel_rfl) (fun _ _ _ h => h) (Or.inr ⟨by rfl, rfl⟩) hHeld ?r244_
       (try simp only [Act.put, qsA, qsB, qsC])
       refine wpAnyH_take (i := 33) (oi := zo32) (v := ?v245_) rfl (by kernel_rfl) (by kernel_rfl) (by kernel_rfl) (fun _ _ _ h => h) (Or.inl ⟨by rfl, ?y245_⟩) hHeld ?r245_
       case y245_ => (intro w_ hSw_; (try dsimp only at hSw_); go_simp; try with_reducible rfl)
       (try simp only [Act.put, qsA, qsB, qsC])
       refine wpAnyH_done (by kernel_rfl) ?_ _
       go_wp2_with fail
       go_ret
       have hres : mayL xs = false := HMX.out (by rw [HMA.out, W1.out, HZ.out, HRI.out, HLE.out, V2.out]; simp)
       rw [hres]
       exact ⟨rfl, by first | exact below_then HB.out HB.out.size HB6.out | (rw [← hg]; exact below_then HB.out HB.out.size HB6.out)⟩
      | true =>
       have V2 := qas v2
       clear v2
       cases v3 : content x with
       | false =>
        have V3 := qas v3
        clear v3
        go_wp2_with fail
        refine wp_region_held_drew (S := (fun W => W.cell? ⟨g, 0, none⟩ = some (.slice (some ad) xs.length c) ∧ W.cell? p = some (.string x.f0) ∧ W.cell? r = some (.string y) ∧ Below wr.heap.size wr W)) (by kernel_rfl) ?s246_ (fun hHeld => ?r246_)
        case s246_ => exact hH.out _ (by with_reducible repeat (first | exact HB7.out | exact HB6.out | exact HB5.out | exact HB4.out | apply qbA | apply qbB | apply qbC))
        refine wpAnyH_take (i := 0) (oi := zo0) (v := ?v247_) rfl (by kernel_rfl) (by kernel_rfl) (by kernel_rfl) (fun _ _ _ h => h) (Or.inl ⟨by rfl, ?y247_⟩) hHeld ?r247_
        case y247_ => (intro w_ hSw_; (try dsimp only at hSw_); go_simp; try with_reducible rfl)
        (try simp only [Act.put, qsA, qsB, qsC])
        refine wpAnyH_take (i := 1) (oi := zo1) (v := ?v248_) rfl (by kernel_rfl) (by kernel_rfl) (by kernel_rfl) (fun _ _ _ h => h) (Or.inl ⟨by rfl, ?y248_⟩) hHeld ?r248_
        case y248_ => (intro w_ hSw_; (try dsimp only at hSw_); go_simp; try with_reducible rfl)
        (try simp only [Act.put, qsA, qsB, qsC])
        refine wpAnyH_take (i := 2) (oi := zo2) (v := ?v249_) rfl (by kernel_rfl) (by kernel_rfl) (by kernel_rfl) (fun _ _ _ h => h) (Or.inl ⟨by rfl, ?y249_⟩) hHeld ?r249_
        case y249_ => (intro w_ hSw_; (try dsimp only at hSw_); go_simp; try with_reducible rfl)
        (try simp only [Act.put, qsA, qsB, qsC])
        refine wpAnyH_take (i := 3) (oi := zo3) (v := ?v250_) rfl (by kernel_rfl) (by kernel_rfl) (by kernel_rfl) (fun _ _ _ h => h) (Or.inl ⟨by rfl, ?y250_⟩) hHeld ?r250_
        case y250_ => (intro w_ hSw_; (try dsimp only at hSw_); go_simp; try with_reducible rfl)
        (try simp only [Act.put, qsA, qsB, qsC])
        refine wpAnyH_ready (rs := [4]) (by kernel_rfl) (by simp) ?_
        refine AllReadyH.cons (o := zo33) rfl (fun K hK => ?_) AllReadyH.nil
        go_simp
        (go_at_call 55; (with_reducible refine (name_May.calls x.f0 true _ V1.out).mono ?_); rintro e w5 ⟨rfl, hb5⟩; have HB5 := qas (below_then (qbB HB4.out _) (Nat.le_refl _) hb5); clear hb5)
        try go_wp2_with fail
        clear hHeld
        refine hK.out _ _ ?s251_ (fun hHeld => ?r251_)
        case s251_ => exact hH.out _ (by with_reducible repeat (first | exact HB7.out | exact HB6.out | exact HB5.out | exact HB4.out | apply qbA | apply qbB | apply qbC))
        clear hK K
        (try simp only [Act.put, qsA, qsB, qsC])
        refine wpAnyH_take (i := 5) (oi := zo4) (v := ?v252_) rfl (by kernel_rfl) (by kernel_rfl) (by kernel_rfl) (fun _ _ _ h => h) (Or.inl ⟨by rfl, ?y252_⟩) hHeld ?r252_
        case y252_ => (intro w_ hSw_; (try dsimp only at hSw_); go_simp; try with_reducible rfl)
        (try simp only [Act.put, qsA, qsB, qsC])
        refine wpAnyH_take (i := 6) (oi := zo5) (v := ?v253_) rfl (by kernel_rfl) (by kernel_rfl) (by kernel_rfl) (fun _ _ _ h => h) (Or.inl ⟨by rfl, ?y253_⟩) hHeld ?r253_
        case y253_ => (intro w_ hSw_; (try dsimp only at hSw_); go_simp; try with_reducible rfl)
        (try simp only [Act.put, qsA, qsB, qsC])
        refine wpAnyH_take (i := 7) (oi := zo6) (v := ?v254_) rfl (by kernel_rfl) (by kernel_rfl) (by kernel_rfl) (fun _ _ _ h => h) (Or.inl ⟨by rfl, ?y254_⟩) hHeld ?r254_
        case y254_ => (intro w_ hSw_; (try dsimp only at hSw_); go_simp; try with_reducible rfl)
        (try simp only [Act.put, qsA, qsB, qsC])
        refine wpAnyH_take (i := 8) (oi := zo7) (v := ?v255_) rfl (by kernel_rfl) (by kernel_rfl) (by kernel_rfl) (fun _ _ _ h => h) (Or.inl ⟨by rfl, ?y255_⟩) hHeld ?r255_
        case y255_ => (intro w_ hSw_; (try dsimp only at hSw_); go_simp; try with_reducible rfl)
        (try simp only [Act.put, qsA, qsB, qsC])
        refine wpAnyH_take (i := 9) (oi := zo8) (v := ?v256_) rfl (by kernel_rfl) (by kernel_rfl) (by kernel_rfl) (fun _ _ _ h => h) (Or.inl ⟨by rfl, ?y256_⟩) hHeld ?r256_
        case y256_ => (intro w_ hSw_; (try dsimp only at hSw_); go_simp; try with_reducible rfl)
        (try simp only [Act.put, qsA, qsB, qsC])
        refine wpAnyH_take (i := 10) (oi := zo9) (v := ?v257_) rfl (by kernel_rfl) (by kernel_rfl) (by kernel_rfl) (fun _ _ _ h => h) (Or.inl ⟨by rfl, ?y257_⟩) hHeld ?r257_
        case y257_ => (intro w_ hSw_; (try dsimp only at hSw_); go_simp; try with_reducible rfl)
        (try simp only [Act.put, qsA, qsB, qsC])
        refine wpAnyH_take (i := 11) (oi := zo10) (v := ?v258_) rfl (by kernel_rfl) (by kernel_rfl) (by kernel_rfl) (fun _ _ _ h => h) (Or.inl ⟨by rfl, ?y258_⟩) hHeld ?r258_
        case y258_ => (intro w_ hSw_; (try dsimp only at hSw_); go_simp; try with_reducible rfl)
        (try simp only [Act.put, qsA, qsB, qsC])
        refine wpAnyH_take (i := 12) (oi := zo11) (v := ?v259_) rfl (by kernel_rfl) (by kernel_rfl) (by kernel_rfl) (fun _ _ _ h => h) (Or.inl ⟨by rfl, ?y259_⟩) hHeld ?r259_
        case y259_ => (intro w_ hSw_; (try dsimp only at hSw_); go_simp; try with_reducible rfl)
        (try simp only [Act.put, qsA, qsB, qsC])
        refine wpAnyH_take (i := 13) (oi := zo12) (v := ?v260_) rfl (by kernel_rfl) (by kernel_rfl) (by kernel_rfl) (fun _ _ _ h => h) (Or.inl ⟨by rfl, ?y260_⟩) hHeld ?r260_
        case y260_ => (intro w_ hSw_; (try dsimp only at hSw_); go_simp; try with_reducible rfl)
        (try simp only [Act.put, qsA, qsB, qsC])
        refine wpAnyH_take (i := 14) (oi := zo13) (v := ?v261_) rfl (by kernel_rfl) (by kernel_rfl) (by kernel_rfl) (fun _ _ _ h => h) (Or.inl ⟨by rfl, ?y261_⟩) hHeld ?r261_
        case y261_ => (intro w_ hSw_; (try dsimp only at hSw_); go_simp; try with_reducible rfl)
        (try simp only [Act.put, qsA, qsB, qsC])
        refine wpAnyH_take (i := 15) (oi := zo14) (v := ?v262_) rfl (by kernel_rfl) (by kernel_rfl) (by kernel_rfl) (fun _ _ _ h => h) (Or.inl ⟨by rfl, ?y262_⟩) hHeld ?r262_
        case y262_ => (intro w_ hSw_; (try dsimp only at hSw_); go_simp; try with_reducible rfl)
        (try simp only [Act.put, qsA, qsB, qsC])
        refine wpAnyH_take (i := 16) (oi := zo15) (v := ?v263_) rfl (by kernel_rfl) (by kernel_rfl) (by kernel_rfl) (fun _ _ _ h => h) (Or.inl ⟨by rfl, ?y263_⟩) hHeld ?r263_
        case y263_ => (intro w_ hSw_; (try dsimp only at hSw_); go_simp; try with_reducible rfl)
        (try simp only [Act.put, qsA, qsB, qsC])
        refine wpAnyH_take (i := 17) (oi := zo16) (v := ?v264_) rfl (by kernel_rfl) (by kernel_rfl) (by kernel_rfl) (fun _ _ _ h => h) (Or.inl ⟨by rfl, ?y264_⟩) hHeld ?r264_
        case y264_ => (intro w_ hSw_; (try dsimp only at hSw_); go_simp; try with_reducible rfl)
        (try simp only [Act.put, qsA, qsB, qsC])
        refine wpAnyH_take (i := 18) (oi := zo17) (v := ?v265_) rfl (by kernel_rfl) (by kernel_rfl) (by kernel_rfl) (fun _ _ _ h => h) (Or.inl ⟨by rfl, ?y265_⟩) hHeld ?r265_
        case y265_ => (intro w_ hSw_; (try dsimp only at hSw_); go_simp; try with_reducible rfl)
        (try simp only [Act.put, qsA, qsB, qsC])
        refine wpAnyH_take (i := 19) (oi := zo18) (v := ?v266_) rfl (by kernel_rfl) (by kernel_rfl) (by kernel_rfl) (fun _ _ _ h => h) (Or.inl ⟨by rfl, ?y266_⟩) hHeld ?r266_
        case y266_ => (intro w_ hSw_; (try dsimp only at hSw_); go_simp; try with_reducible rfl)
        (try simp only [Act.put, qsA, qsB, qsC])
        refine wpAnyH_take (i := 20) (oi := zo19) (v := ?v267_) rfl (by kernel_rfl) (by kernel_rfl) (by kernel_rfl) (fun _ _ _ h => h) (Or.inl ⟨by rfl, ?y267_⟩) hHeld ?r267_
        case y267_ => (intro w_ hSw_; (try dsimp only at hSw_); go_simp; try with_reducible rfl)
        (try simp only [Act.put, qsA, qsB, qsC])
        refine wpAnyH_take (i := 21) (oi := zo20) (v := ?v268_) rfl (by kernel_rfl) (by kernel_rfl) (by kernel_rfl) (fun _ _ _ h => h) (Or.inl ⟨by rfl, ?y268_⟩) hHeld ?r268_
        case y268_ => (intro w_ hSw_; (try dsimp only at hSw_); go_simp; try with_reducible rfl)
        (try simp only [Act.put, qsA, qsB, qsC])
        refine wpAnyH_take (i := 22) (oi := zo21) (v := ?v269_) rfl (by kernel_rfl) (by kernel_rfl) (by kernel_rfl) (fun _ _ _ h => h) (Or.inl ⟨by rfl, ?y269_⟩) hHeld ?r269_
        case y269_ => (intro w_ hSw_; (try dsimp only at hSw_); go_simp; try with_reducible rfl)
        (try simp only [Act.put, qsA, qsB, qsC])
        refine wpAnyH_take (i := 23) (oi := zo22) (v := ?v270_) rfl (by kernel_rfl) (by kernel_rfl) (by kernel_rfl) (fun _ _ _ h => h) (Or.inl ⟨by rfl, ?y270_⟩) hHeld ?r270_
        case y270_ => (intro w_ hSw_; (try dsimp only at hSw_); go_simp; try with_reducible rfl)
        (try simp only [Act.put, qsA, qsB, qsC])
        refine wpAnyH_take (i := 24) (oi := zo23) (v := ?v271_) rfl (by kernel_rfl) (by kernel_rfl) (by kernel_rfl) (fun _ _ _ h => h) (Or.inl ⟨by rfl, ?y271_⟩) hHeld ?r271_
        case y271_ => (intro w_ hSw_; (try dsimp only at hSw_); go_simp; try with_reducible rfl)
        (try simp only [Act.put, qsA, qsB, qsC])
        refine wpAnyH_take (i := 25) (oi := zo24) (v := ?v272_) rfl (by kernel_rfl) (by kernel_rfl) (by kernel_rfl) (fun _ _ _ h => h) (Or.inl ⟨by rfl, ?y272_⟩) hHeld ?r272_
        case y272_ => (intro w_ hSw_; (try dsimp only at hSw_); go_simp; try with_reducible rfl)
        (try simp only [Act.put, qsA, qsB, qsC])
        refine wpAnyH_ready (rs := [26]) (by kernel_rfl) (by simp) ?_
        refine AllReadyH.cons (o := zo25) rfl (fun K hK => ?_) AllReadyH.nil
        go_simp
        (go_at_call 56; (with_reducible refine (emay_call _ p x A2 c2 (HE.out.below (by with_reducible repeat (first | exact HB6.out | exact HB5.out | exact HB4.out | apply qbA | apply qbB | apply qbC))) true V2.out).mono ?_); rintro e w6 ⟨rfl, hb6⟩; have HB6 := qas (below_then HB5.out (HB5.out).size hb6); clear hb6)
        try go_wp2_with fail
        clear hHeld
        refine hK.out _ _ ?s273_ (fun hHeld => ?r273_)
        case s273_ => exact hH.out _ (by with_reducible repeat (first | exact HB7.out | exact HB6.out | exact HB5.out | exact HB4.out | apply qbA | apply qbB | apply qbC))
        clear hK K
        (try simp only [Act.put, qsA, qsB, qsC])
        refine wpAnyH_take (i := 27) (oi := zo26) (v := ?v274_) rfl (by kernel_rfl) (by kernel_rfl) (by kernel_rfl) (fun _ _ _ h => h) (Or.inl ⟨by rfl, ?y274_⟩) hHeld ?r274_
        case y274_ => (intro w_ hSw_; (try dsimp only at hSw_); go_simp; try with_reducible rfl)
        (try simp only [Act.put, qsA, qsB, qsC])
        refine wpAnyH_take (i := 28) (oi := zo27) (v := ?v275_) rfl (by kernel_rfl) (by kernel_rfl) (by kernel_rfl) (fun _ _ _ h => h) (Or.inl ⟨by rfl, ?y275_⟩) hHeld ?r275_
        case y275_ => (intro w_ hSw_; (try dsimp only at hSw_); go_simp; try with_reducible rfl)
        (try simp only [Act.put, qsA, qsB, qsC])
        refine wpAnyH_take (i := 29) (oi := zo28) (v := ?v276_) rfl (by kernel_rfl) (by kernel_rfl) (by kernel_rfl) (fun _ _ _ h => h) (Or.inl ⟨by rfl, ?y276_⟩) hHeld ?r276_
        case y276_ => (intro w_ hSw_; (try dsimp only at hSw_); go_simp; try with_reducible rfl)
        (try simp only [Act.put, qsA, qsB, qsC])
        refine wpAnyH_take (i := 30) (oi := zo29) (v := ?v277_) rfl (by kernel_rfl) (by kernel_rfl) (by kernel_rfl) (fun _ _ _ h => h) (Or.inl ⟨by rfl, ?y277_⟩) hHeld ?r277_
        case y277_ => (intro w_ hSw_; (try dsimp only at hSw_); go_simp; try with_reducible rfl)
        (try simp only [Act.put, qsA, qsB, qsC])
        refine wpAnyH_ready (rs := [31]) (by kernel_rfl) (by simp) ?_
        refine AllReadyH.cons (o := zo30) rfl (fun K hK => ?_) AllReadyH.nil
        go_simp
        (go_at_call 57; (with_reducible refine (cont_call _ p x A2 c2 (HE.out.below (by with_reducible repeat (first | exact HB6.out | exact HB5.out | exact HB4.out | apply qbA | apply qbB | apply qbC))) false V3.out).mono ?_); rintro e w7 ⟨rfl, hb7⟩; have HB7 := qas (below_then HB6.out (HB6.out).size hb7); clear hb7)
        try go_wp2_with fail
        clear hHeld
        refine hK.out _ _ ?s278_ (fun hHeld => ?r278_)
        case s278_ => exact hH.out _ (by with_reducible repeat (first | exact HB7.out | exact HB6.out | exact HB5.out | exact HB4.out | apply qbA | apply qbB | apply qbC))
        clear hK K
        (try simp only [Act.put, qsA, qsB, qsC])
        refine wpAnyH_take (i := 32) (oi := zo31) (v := ?v279_) rfl (by kernel_rfl) (by kernel_rfl) (by kernel_rfl) (fun _ _ _ h => h) (Or.inl ⟨by rfl, ?y279_⟩) hHeld ?r279_
        case y279_ => (intro w_ hSw_; (try dsimp only at hSw_); go_simp; try with_reducible rfl)
        (try simp only [Act.put, qsA, qsB, qsC])
        refine wpAnyH_take (i := 33) (oi := zo32) (v := ?v280_) rfl (by kernel_rfl) (by kernel_rfl) (by kernel_rfl) (fun _ _ _ h => h) (Or.inl ⟨by rfl, ?y280_⟩) hHeld ?r280_
        case y280_ => (intro w_ hSw_; (try dsimp only at hSw_); go_simp; try with_reducible rfl)
        (try simp only [Act.put, qsA, qsB, qsC])
        refine wpAnyH_done (by kernel_rfl) ?_ _
        go_wp2_with fail
        go_ret
        have hres : mayL xs = false := HMX.out (by rw [HMA.out, W1.out, HZ.out, HRI.out, HLE.out, V2.out, V3.out]; simp)
        rw [hres]
        exact ⟨rfl, by first | exact below_then HB.out HB.out.size HB7.out | (rw [← hg]; exact below_then HB.out HB.out.size HB7.out)⟩
       | true =>
        have V3 := qas v3
        clear v3
        go_wp2_with fail
        refine wp_region_held_drew (S := (fun W => W.cell? ⟨g, 0, none⟩ = some (.slice (some ad) xs.length c) ∧ W.cell? p = some (.string x.f0) ∧ W.cell? r = some (.string y) ∧ Below wr.heap.size wr W)) (by kernel_rfl) ?s281_ (fun hHeld => ?r281_)
        case s281_ => exact hH.out _ (by with_reducible repeat (first | exact HB7.out | exact HB6.out | exact HB5.out | exact HB4.out | apply qbA | apply qbB | apply qbC))
        refine wpAnyH_take (i := 0) (oi := zo0) (v := ?v282_) rfl (by kernel_rfl) (by kernel_rfl) (by kernel_rfl) (fun _ _ _ h => h) (Or.inl ⟨by rfl, ?y282_⟩) hHeld ?r282_
        case y282_ => (intro w_ hSw_; (try dsimp only at hSw_); go_simp; try with_reducible rfl)
        (try simp only [Act.put, qsA, qsB, qsC])
        refine wpAnyH_take (i := 1) (oi := zo1) (v := ?v283_) rfl (by kernel_rfl) (by kernel_rfl) (by kernel_rfl) (fun _ _ _ h => h) (Or.inl ⟨by rfl, ?y283_⟩) hHeld ?r283_
        case y283_ => (intro w_ hSw_; (try dsimp only at hSw_); go_simp; try with_reducible rfl)
        (try simp only [Act.put, qsA, qsB, qsC])
        refine wpAnyH_take (i := 2) (oi := zo2) (v := ?v284_) rfl (by kernel_rfl) (by kernel_rfl) (by kernel_rfl) (fun _ _ _ h => h) (Or.inl ⟨by rfl, ?y284_⟩) hHeld ?r284_
        case y284_ => (intro w_ hSw_; (try dsimp only at hSw_); go_simp; try with_reducible rfl)
        (try simp only [Act.put, qsA, qsB, qsC])
        refine wpAnyH_take (i := 3) (oi := zo3) (v := ?v285_) rfl (by kernel_rfl) (by kernel_rfl) (by kernel_rfl) (fun _ _ _ h => h) (Or.inl ⟨by rfl, ?y285_⟩) hHeld ?r285_
        case y285_ => (intro w_ hSw_; (try dsimp only at hSw_); go_simp; try with_reducible rfl)
        (try simp only [Act.put, qsA, qsB, qsC])
        refine wpAnyH_ready (rs := [4]) (by kernel_rfl) (by simp) ?_
        refine AllReadyH.cons (o := zo33) rfl (fun K hK => ?_) AllReadyH.nil
        go_simp
        (go_at_call 55; (with_reducible refine (name_May.calls x.f0 true _ V1.out).mono ?_); rintro e w5 ⟨rfl, hb5⟩; have HB5 := qas (below_then (qbB HB4.out _) (Nat.le_refl _) hb5); clear hb5)
        try go_wp2_with fail
        clear hHeld
        refine hK.out _ _ ?s286_ (fun hHeld => ?r286_)
        case s286_ => exact hH.out _ (by with_reducible repeat (first | exact HB7.out | exact HB6.out | exact HB5.out | exact HB4.out | apply qbA | apply qbB | apply qbC))
        clear hK K
        (try simp only [Act.put, qsA, qsB, qsC])
        refine wpAnyH_take (i := 5) (oi := zo4) (v := ?v287_) rfl (by kernel_rfl) (by kernel_rfl) (by kernel_rfl) (fun _ _ _ h => h) (Or.inl ⟨by rfl, ?y287_⟩) hHeld ?r287_
        case y287_ => (intro w_ hSw_; (try dsimp only at hSw_); go_simp; try with_reducible rfl)
        (try simp only [Act.put, qsA, qsB, qsC])
        refine wpAnyH_take (i := 6) (oi := zo5) (v := ?v288_) rfl (by kernel_rfl) (by kernel_rfl) (by kernel_rfl) (fun _ _ _ h => h) (Or.inl ⟨by rfl, ?y288_⟩) hHeld ?r288_
        case y288_ => (intro w_ hSw_; (try dsimp only at hSw_); go_simp; try with_reducible rfl)
        (try simp only [Act.put, qsA, qsB, qsC])
        refine wpAnyH_take (i := 7) (oi := zo6) (v := ?v289_) rfl (by kernel_rfl) (by kernel_rfl) (by kernel_rfl) (fun _ _ _ h => h) (Or.inl ⟨by rfl, ?y289_⟩) hHeld ?r289_
        case y289_ => (intro w_ hSw_; (try dsimp only at hSw_); go_simp; try with_reducible rfl)
        (try simp only [Act.put, qsA, qsB, qsC])
        refine wpAnyH_take (i := 8) (oi := zo7) (v := ?v290_) rfl (by kernel_rfl) (by kernel_rfl) (by kernel_rfl) (fun _ _ _ h => h) (Or.inl ⟨by rfl, ?y290_⟩) hHeld ?r290_
        case y290_ => (intro w_ hSw_; (try dsimp only at hSw_); go_simp; try with_reducible rfl)
        (try simp only [Act.put, qsA, qsB, qsC])
        refine wpAnyH_take (i := 9) (oi := zo8) (v := ?v291_) rfl (by kernel_rfl) (by kernel_rfl) (by kernel_rfl) (fun _ _ _ h => h) (Or.inl ⟨by rfl, ?y291_⟩) hHeld ?r291_
        case y291_ => (intro w_ hSw_; (try dsimp only at hSw_); go_simp; try with_reducible rfl)
        (try simp only [Act.put, qsA, qsB, qsC])
        refine wpAnyH_take (i := 10) (oi := zo9) (v := ?v292_) rfl (by kernel_rfl) (by kernel_rfl) (by kernel_rfl) (fun _ _ _ h => h) (Or.inl ⟨by rfl, ?y292_⟩) hHeld ?r292_
        case y292_ => (intro w_ hSw_; (try dsimp only at hSw_); go_simp; try with_reducible rfl)
        (try simp only [Act.put, qsA, qsB, qsC])
        refine wpAnyH_take (i := 11) (oi := zo10) (v := ?v293_) rfl (by kernel_rfl) (by kernel_rfl) (by kernel_rfl) (fun _ _ _ h => h) (Or.inl ⟨by rfl, ?y293_⟩) hHeld ?r293_
        case y293_ => (intro w_ hSw_; (try dsimp only at hSw_); go_simp; try with_reducible rfl)
        (try simp only [Act.put, qsA, qsB, qsC])
        refine wpAnyH_take (i := 12) (oi := zo11) (v := ?v294_) rfl (by kernel_rfl) (by kernel_rfl) (by kernel_rfl) (fun _ _ _ h => h) (Or.inl ⟨by rfl, ?y294_⟩) hHeld ?r294_
        case y294_ => (intro w_ hSw_; (try dsimp only at hSw_); go_simp; try with_reducible rfl)
        (try simp only [Act.put, qsA, qsB, qsC])
        refine wpAnyH_take (i := 13) (oi := zo12) (v := ?v295_) rfl (by kernel_rfl) (by kernel_rfl) (by kernel_rfl) (fun _ _ _ h => h) (Or.inl ⟨by rfl, ?y295_⟩) hHeld ?r295_
        case y295_ => (intro w_ hSw_; (try dsimp only at hSw_); go_simp; try with_reducible rfl)
        (try simp only [Act.put, qsA, qsB, qsC])
        refine wpAnyH_take (i := 14) (oi := zo13) (v := ?v296_) rfl (by kernel_rfl) (by kernel_rfl) (by kernel_rfl) (fun _ _ _ h => h) (Or.inl ⟨by rfl, ?y296_⟩) hHeld ?r296_
        case y296_ => (intro w_ hSw_; (try dsimp only at hSw_); go_simp; try with_reducible rfl)
        (try simp only [Act.put, qsA, qsB, qsC])
        refine wpAnyH_take (i := 15) (oi := zo14) (v := ?v297_) rfl (by kernel_rfl) (by kernel_rfl) (by kernel_rfl) (fun _ _ _ h => h) (Or.inl ⟨by rfl, ?y297_⟩) hHeld ?r297_
        case y297_ => (intro w_ hSw_; (try dsimp only at hSw_); go_simp; try with_reducible rfl)
        (try simp only [Act.put, qsA, qsB, qsC])
        refine wpAnyH_take (i := 16) (oi := zo15) (v := ?v298_) rfl (by kernel_rfl) (by kernel_rfl) (by kernel_rfl) (fun _ _ _ h => h) (Or.inl ⟨by rfl, ?y298_⟩) hHeld ?r298_
        case y298_ => (intro w_ hSw_; (try dsimp only at hSw_); go_simp; try with_reducible rfl)
        (try simp only [Act.put, qsA, qsB, qsC])
        refine wpAnyH_take (i := 17) (oi := zo16) (v := ?v299_) rfl (by kernel_rfl) (by kernel_rfl) (by kernel_rfl) (fun _ _ _ h => h) (Or.inl ⟨by rfl, ?y299_⟩) hHeld ?r299_
        case y299_ => (intro w_ hSw_; (try dsimp only at hSw_); go_simp; try with_reducible rfl)
        (try simp only [Act.put, qsA, qsB, qsC])
        refine wpAnyH_take (i := 18) (oi := zo17) (v := ?v300_) rfl (by kernel_rfl) (by kernel_rfl) (by kernel_rfl) (fun _ _ _ h => h) (Or.inl ⟨by rfl, ?y300_⟩) hHeld ?r300_
        case y300_ => (intro w_ hSw_; (try dsimp only at hSw_); go_simp; try with_reducible rfl)
        (try simp only [Act.put, qsA, qsB, qsC])
        refine wpAnyH_take (i := 19) (oi := zo18) (v := ?v301_) rfl (by kernel_rfl) (by kernel_rfl) (by kernel_rfl) (fun _ _ _ h => h) (Or.inl ⟨by rfl, ?y301_⟩) hHeld ?r301_
        case y301_ => (intro w_ hSw_; (try dsimp only at hSw_); go_simp; try with_reducible rfl)
        (try simp only [Act.put, qsA, qsB, qsC])
        refine wpAnyH_take (i := 20) (oi := zo19) (v := ?v302_) rfl (by kernel_rfl) (by kernel_rfl) (by kernel_rfl) (fun _ _ _ h => h) (Or.inl ⟨by rfl, ?y302_⟩) hHeld ?r302_
        case y302_ => (intro w_ hSw_; (try dsimp only at hSw_); go_simp; try with_reducible rfl)
        (try simp only [Act.put, qsA, qsB, qsC])
        refine wpAnyH_take (i := 21) (oi := zo20) (v := ?v303_) rfl (by kernel_rfl) (by kernel_rfl) (by kernel_rfl) (fun _ _ _ h => h) (Or.inl ⟨by rfl, ?y303_⟩) hHeld ?r303_
        case y303_ => (intro w_ hSw_; (try dsimp only at hSw_); go_simp; try with_reducible rfl)
        (try simp only [Act.put, qsA, qsB, qsC])
        refine wpAnyH_take (i := 22) (oi := zo21) (v := ?v304_) rfl (by kernel_rfl) (by kernel_rfl) (by kernel_rfl) (fun _ _ _ h => h) (Or.inl ⟨by rfl, ?y304_⟩) hHeld ?r304_
        case y304_ => (intro w_ hSw_; (try dsimp only at hSw_); go_simp; try with_reducible rfl)
        (try simp only [Act.put, qsA, qsB, qsC])
        refine wpAnyH_take (i := 23) (oi := zo22) (v := ?v305_) rfl (by kernel_rfl) (by kernel_rfl) (by kernel_rfl) (fun _ _ _ h => h) (Or.inl ⟨by rfl, ?y305_⟩) hHeld ?r305_
        case y305_ => (intro w_ hSw_; (try dsimp only at hSw_); go_simp; try with_reducible rfl)
        (try simp only [Act.put, qsA, qsB, qsC])
        refine wpAnyH_take (i := 24) (oi := zo23) (v := ?v306_) rfl (by kernel_rfl) (by kernel_rfl) (by kernel_rfl) (fun _ _ _ h => h) (Or.inl ⟨by rfl, ?y306_⟩) hHeld ?r306_
        case y306_ => (intro w_ hSw_; (try dsimp only at hSw_); go_simp; try with_reducible rfl)
        (try simp only [Act.put, qsA, qsB, qsC])
        refine wpAnyH_take (i := 25) (oi := zo24) (v := ?v307_) rfl (by kernel_rfl) (by kernel_rfl) (by kernel_rfl) (fun _ _ _ h => h) (Or.inl ⟨by rfl, ?y307_⟩) hHeld ?r307_
        case y307_ => (intro w_ hSw_; (try dsimp only at hSw_); go_simp; try with_reducible rfl)
        (try simp only [Act.put, qsA, qsB, qsC])
        refine wpAnyH_ready (rs := [26]) (by kernel_rfl) (by simp) ?_
        refine AllReadyH.cons (o := zo25) rfl (fun K hK => ?_) AllReadyH.nil
        go_simp
        (go_at_call 56; (with_reducible refine (emay_call _ p x A2 c2 (HE.out.below (by with_reducible repeat (first | exact HB6.out | exact HB5.out | exact HB4.out | apply qbA | apply qbB | apply qbC))) true V2.out).mono ?_); rintro e w6 ⟨rfl, hb6⟩; have HB6 := qas (below_then HB5.out (HB5.out).size hb6); clear hb6)
        try go_wp2_with fail
        clear hHeld
        refine hK.out _ _ ?s308_ (fun hHeld => ?r308_)
        case s308_ => exact hH.out _ (by with_reducible repeat (first | exact HB7.out | exact HB6.out | exact HB5.out | exact HB4.out | apply qbA | apply qbB | apply qbC))
        clear hK K
        (try simp only [Act.put, qsA, qsB, qsC])
        refine wpAnyH_take (i := 27) (oi := zo26) (v := ?v309_) rfl (by kernel_rfl) (by kernel_rfl) (by kernel_rfl) (fun _ _ _ h => h) (Or.inl ⟨by rfl, ?y309_⟩) hHeld ?r309_
        case y309_ => (intro w_ hSw_; (try dsimp only at hSw_); go_simp; try with_reducible rfl)
        (try simp only [Act.put, qsA, qsB, qsC])
        refine wpAnyH_take (i := 28) (oi := zo27) (v := ?v310_) rfl (by kernel_rfl) (by kernel_rfl) (by kernel_rfl) (fun _ _ _ h => h) (Or.inl ⟨by rfl, ?y310_⟩) hHeld ?r310_
        case y310_ => (intro w_ hSw_; (try dsimp only at hSw_); go_simp; try with_reducible rfl)
        (try simp only [Act.put, qsA, qsB, qsC])
        refine wpAnyH_take (i := 29) (oi := zo28) (v := ?v311_) rfl (by kernel_rfl) (by kernel_rfl) (by kernel_rfl) (fun _ _ _ h => h) (Or.inl ⟨by rfl, ?y311_⟩) hHeld ?r311_
        case y311_ => (intro w_ hSw_; (try dsimp only at hSw_); go_simp; try with_reducible rfl)
        (try simp only [Act.put, qsA, qsB, qsC])
        refine wpAnyH_take (i := 30) (oi := zo29) (v := ?v312_) rfl (by kernel_rfl) (by kernel_rfl) (by kernel_rfl) (fun _ _ _ h => h) (Or.inl ⟨by rfl, ?y312_⟩) hHeld ?r312_
        case y312_ => (intro w_ hSw_; (try dsimp only at hSw_); go_simp; try with_reducible rfl)
        (try simp only [Act.put, qsA, qsB, qsC])
        refine wpAnyH_ready (rs := [31]) (by kernel_rfl) (by simp) ?_
        refine AllReadyH.cons (o := zo30) rfl (fun K hK => ?_) AllReadyH.nil
        go_simp
        (go_at_call 57; (with_reducible refine (cont_call _ p x A2 c2 (HE.out.below (by with_reducible repeat (first | exact HB6.out | exact HB5.out | exact HB4.out | apply qbA | apply qbB | apply qbC))) true V3.out).mono ?_); rintro e w7 ⟨rfl, hb7⟩; have HB7 := qas (below_then HB6.out (HB6.out).size hb7); clear hb7)
        try go_wp2_with fail
        clear hHeld
        refine hK.out _ _ ?s313_ (fun hHeld => ?r313_)
        case s313_ => exact hH.out _ (by with_reducible repeat (first | exact HB7.out | exact HB6.out | exact HB5.out | exact HB4.out | apply qbA | apply qbB | apply qbC))
        clear hK K
        (try simp only [Act.put, qsA, qsB, qsC])
        refine wpAnyH_take (i := 32) (oi := zo31) (v := ?v314_) rfl (by kernel_rfl) (by kernel_rfl) (by kernel_rfl) (fun _ _ _ h => h) (Or.inl ⟨by rfl, ?y314_⟩) hHeld ?r314_
        case y314_ => (intro w_ hSw_; (try dsimp only at hSw_); go_simp; try with_reducible rfl)
        (try simp only [Act.put, qsA, qsB, qsC])
        refine wpAnyH_take (i := 33) (oi := zo32) (v := ?v315_) rfl (by kernel_rfl) (by kernel_rfl) (by kernel_rfl) (fun _ _ _ h => h) (Or.inl ⟨by rfl, ?y315_⟩) hHeld ?r315_
        case y315_ => (intro w_ hSw_; (try dsimp only at hSw_); go_simp; try with_reducible rfl)
        (try simp only [Act.put, qsA, qsB, qsC])
        refine wpAnyH_done (by kernel_rfl) ?_ _
        go_wp2_with fail
        have hma : mayAt xs i = true := by rw [HMA.out, W1.out, HZ.out, HRI.out, HLE.out, V2.out, V3.out]; simp
        exact ⟨⟨i + 1, rfl, by omega, ⟨by rw [List.range_succ, List.all_append, HA.out, Bool.true_and]; simp [hma]⟩, ⟨below_then HB.out HB.out.size HB7.out⟩, ⟨(HB7.out.block g (blk_lt HG.out)).trans HG.out⟩⟩, by show xs.length - ((i : Int) + 1).toNat < xs.length - (i : Int).toNat; omega⟩
  ·have hie : i = xs.length := by omega
   have HAL : Aside0 ((List.range xs.length).all (mayAt xs) = true) := ⟨by rw [← hie]; exact HA.out⟩
   have hd : decide ((xs.length : Int) ≤ 6) = decide (xs.length ≤ 6) := by
    by_cases h : xs.length ≤ 6
    ·rw [decide_eq_true h, decide_eq_true (by omega)]
    ·rw [decide_eq_false h, decide_eq_false (by omega)]
   have hnlt : ¬ (i : Int) < (xs.length : Int) := by omega
   go_wp2_with fail
   go_ret
   refine ⟨?_, by first | exact HB.out | (rw [← hg]; exact HB.out)⟩
   unfold mayL
   rw [HAL.out, Bool.true_and]
   rfl
end Go.Proofs.YtneogampbohfnaaDoor.ZipW
