-- Written by a program of this session out of the translation (a changed copy of the kit's printer).
import Derived.Test.YtnjbbfcknijcnaaM0
import Derived.Test.YtnjbbfcknijcnaaM2
import Derived.Test.YtnjbbfcknijcnaaM4
import Derived.Test.YtnjbbfcknijcnaaM5
namespace Go.Proofs.Ytnjbbfcknijcnaa.M
open Go.RowKit Go.Proofs.YtnjbbfcknijcnaaW.PrintWords Go.Proofs.YtnjbbfcknijcnaaW.PrintLast Go.Proofs.YtnjbbfcknijcnaaW.PrintMore
attribute [local go_sem] max2_int min2_int max_two min_two max_three min_three max_four min_four   -- for this text's walks alone
set_option linter.unusedVariables false
set_option linter.unusedSimpArgs false

/-! ### portagelaw5_MatchForms: function 15 -/
def portagelaw5_MatchForms.l0 : Nat → List (S72) → ByteArray → Int → List (S72) → Int → Option (Bool)
  | 0, _, _, _, _, _ => none
  | k + 1, x8, x9, x10, x11, x12 => if x12 < 32 then (if x11.length < 5864062014805 then (portagelaw5_MatchForms.l0 k x8 x9 x10 (x11 ++ [(⟨0, 258, 1⟩ : S72)]) (wrap64 (x12 + 1))) else (none)) else ((match_Expand.f k x11).bind fun bt193 => (if 30 ≤ (x11.length : Int) then ((match_Expand.f k (x11.take 30)).bind fun bt199 => ((match_May.f k x8).bind fun t201 => (if t201 = true then (none) else (if x9.toList = ([] : List UInt8) then ((portagelaw0_Num.f x10).bind fun t202 => (if t202 = 500 then ((match_May.f k x11).bind fun t203 => (if t203 = true then (none) else ((portagelaw0_Num.f bt193.2).bind fun t204 => (if t204 = 500 then (if (bt199.1.size : Int) = 7483 then ((portagelaw0_Num.f bt199.2).bind fun t205 => (some (t205 == 0))) else (none)) else (none))))) else (none))) else (none))))) else (none)))
def portagelaw5_MatchForms.f (k : Nat) (a0 : Int) (a1 : Int) : Option (Bool) := (portagelaw5_awake.f k).bind fun t176 => (if t176 = true then ((some (([(⟨wrap64 (-(wrap64 (1 + (Go.bits .and .i64 a1 1023)))), 0, 0⟩ : S72), (⟨wrap64 (255 + (wrap64 (1 + (Go.bits .and .i64 a1 1023)))), 0, 0⟩ : S72), (⟨1, 0, wrap64 (1 + (Go.bits .and .i64 a1 1023))⟩ : S72), (⟨0, 2, 1⟩ : S72), (⟨0, wrap64 (-(wrap64 (1 + (Go.bits .and .i64 a1 1023)))), 1⟩ : S72), (⟨0, wrap64 (258 + (wrap64 (1 + (Go.bits .and .i64 a1 1023)))), 1⟩ : S72), (⟨0, 3, 0⟩ : S72), (⟨0, 3, wrap64 (-(wrap64 (1 + (Go.bits .and .i64 a1 1023))))⟩ : S72), (⟨0, 3, wrap64 (1 + (wrap64 (1 + (Go.bits .and .i64 a1 1023))))⟩ : S72), (⟨wrap64 (1 + (Go.bits .and .i64 a1 1023)), 3, 1⟩ : S72)] : List (S72)) : List (S72))).bind fun y178 => (if 0 ≤ (wrap64 (Int.tmod (IntKind.u64.wrap (a0)) 10)) then (if (wrap64 (Int.tmod (IntKind.u64.wrap (a0)) 10)) < (y178.length : Int) then ((some (([(⟨65, 0, 0⟩ : S72), (⟨(rd_T72 y178 (wrap64 (Int.tmod (IntKind.u64.wrap (a0)) 10))).f0, (rd_T72 y178 (wrap64 (Int.tmod (IntKind.u64.wrap (a0)) 10))).f1, (rd_T72 y178 (wrap64 (Int.tmod (IntKind.u64.wrap (a0)) 10))).f2⟩ : S72)] : List (S72)) : List (S72))).bind fun y182 => ((match_Expand.f k y182).bind fun bt185 => (if ([] : List (S72)).length < 5864062014805 then (portagelaw5_MatchForms.l0 k y182 bt185.1 bt185.2 (([] : List (S72)) ++ [(⟨65, 0, 0⟩ : S72)]) 0) else (none)))) else (none)) else (none))) else (none))
theorem portagelaw5_MatchForms.mono_l : ∀ k, (∀ y0 y1 y2 y3 y4, LeO (portagelaw5_MatchForms.l0 k y0 y1 y2 y3 y4) (portagelaw5_MatchForms.l0 (k + 1) y0 y1 y2 y3 y4))
  | 0 => fun _ _ _ _ _ r h => by simp [portagelaw5_MatchForms.l0] at h
  | k + 1 => by
    have ih0 := portagelaw5_MatchForms.mono_l k
    · intro y0 y1 y2 y3 y4
      unfold portagelaw5_MatchForms.l0
      repeat' first
      | (with_reducible exact ih0 _ _ _ _ _)
      | (with_reducible exact match_Expand.mono _ _)
      | (with_reducible exact match_May.mono _ _)
      | (with_reducible exact portagelaw5_awake.mono _)
      | (with_reducible exact LeO.refl _)
      | (with_reducible exact LeO.none _)
      | (with_reducible refine LeO.ite ?_ ?_)
      | (with_reducible refine LeO.bind ?_ (fun _ => ?_))
      | exact ih0 _ _ _ _ _
      | exact match_Expand.mono _ _
      | exact match_May.mono _ _
      | exact portagelaw5_awake.mono _
      | exact LeO.none _
      | refine LeO.ite ?_ ?_
      | refine LeO.bind ?_ (fun _ => ?_)
theorem portagelaw5_MatchForms.mono : ∀ a0 a1 k, LeO (portagelaw5_MatchForms.f k a0 a1) (portagelaw5_MatchForms.f (k + 1) a0 a1) := by
  intro a0 a1 k
  have ih0 := portagelaw5_MatchForms.mono_l k
  unfold portagelaw5_MatchForms.f
  repeat' first
      | (with_reducible exact ih0 _ _ _ _ _)
      | (with_reducible exact match_Expand.mono _ _)
      | (with_reducible exact match_May.mono _ _)
      | (with_reducible exact portagelaw5_awake.mono _)
      | (with_reducible exact LeO.refl _)
      | (with_reducible exact LeO.none _)
      | (with_reducible refine LeO.ite ?_ ?_)
      | (with_reducible refine LeO.bind ?_ (fun _ => ?_))
      | exact ih0 _ _ _ _ _
      | exact match_Expand.mono _ _
      | exact match_May.mono _ _
      | exact portagelaw5_awake.mono _
      | exact LeO.none _
      | refine LeO.ite ?_ ?_
      | refine LeO.bind ?_ (fun _ => ?_)
def portagelaw5_MatchForms.T6 : Bool × List (List Nat × List Nat) := (true, [([], []), ([], []), ([], []), ([2], [2]), ([3], [3]), ([4], [4]), ([1, 5], [1, 5]), ([6], [6]), ([0, 7], [0, 7]), ([8, 0, 1, 2, 3, 4, 5, 6, 7, 8], [8])])
def portagelaw5_MatchForms.B6 : List Nat := [0, 0, 0, 4, 12, 28, 62, 126, 255, 511]
theorem portagelaw5_MatchForms.tab6 : rtab .any (opsOf Try.f15 6) = portagelaw5_MatchForms.T6 := by kernel_rfl
theorem portagelaw5_MatchForms.bits6 : waitsOk portagelaw5_MatchForms.T6.2 portagelaw5_MatchForms.B6 = true := by kernel_rfl
set_option maxHeartbeats 8000000 in
set_option maxRecDepth 100000 in
theorem portagelaw5_MatchForms.calls (k : Nat) (a0 : Int) (a1 : Int) (r : Bool) (w : World) (h : portagelaw5_MatchForms.f k a0 a1 = some r) :
    Calls Try.prog 15 #[.int .i64 a0, .int .i64 a1] w fun e w' => e = .returned (.bool r) ∧ Below w.heap.size w w' := by
  have hu72 := Try.underlying72
  have HB := Aside0.mk (Below.refl w.heap.size w)
  have H : ((portagelaw5_awake.f k).bind fun t176 => (if t176 = true then ((some (([(⟨wrap64 (-(wrap64 (1 + (Go.bits .and .i64 a1 1023)))), 0, 0⟩ : S72), (⟨wrap64 (255 + (wrap64 (1 + (Go.bits .and .i64 a1 1023)))), 0, 0⟩ : S72), (⟨1, 0, wrap64 (1 + (Go.bits .and .i64 a1 1023))⟩ : S72), (⟨0, 2, 1⟩ : S72), (⟨0, wrap64 (-(wrap64 (1 + (Go.bits .and .i64 a1 1023)))), 1⟩ : S72), (⟨0, wrap64 (258 + (wrap64 (1 + (Go.bits .and .i64 a1 1023)))), 1⟩ : S72), (⟨0, 3, 0⟩ : S72), (⟨0, 3, wrap64 (-(wrap64 (1 + (Go.bits .and .i64 a1 1023))))⟩ : S72), (⟨0, 3, wrap64 (1 + (wrap64 (1 + (Go.bits .and .i64 a1 1023))))⟩ : S72), (⟨wrap64 (1 + (Go.bits .and .i64 a1 1023)), 3, 1⟩ : S72)] : List (S72)) : List (S72))).bind fun y178 => (if 0 ≤ (wrap64 (Int.tmod (IntKind.u64.wrap (a0)) 10)) then (if (wrap64 (Int.tmod (IntKind.u64.wrap (a0)) 10)) < (y178.length : Int) then ((some (([(⟨65, 0, 0⟩ : S72), (⟨(rd_T72 y178 (wrap64 (Int.tmod (IntKind.u64.wrap (a0)) 10))).f0, (rd_T72 y178 (wrap64 (Int.tmod (IntKind.u64.wrap (a0)) 10))).f1, (rd_T72 y178 (wrap64 (Int.tmod (IntKind.u64.wrap (a0)) 10))).f2⟩ : S72)] : List (S72)) : List (S72))).bind fun y182 => ((match_Expand.f k y182).bind fun bt185 => (if ([] : List (S72)).length < 5864062014805 then (portagelaw5_MatchForms.l0 k y182 bt185.1 bt185.2 (([] : List (S72)) ++ [(⟨65, 0, 0⟩ : S72)]) 0) else (none)))) else (none)) else (none))) else (none))) = some r := h
  clear h
  replace H := Option.bind_eq_some_iff.mp H
  obtain ⟨t176, A30, H⟩ := H
  replace H : (if t176 = true then ((some (([(⟨wrap64 (-(wrap64 (1 + (Go.bits .and .i64 a1 1023)))), 0, 0⟩ : S72), (⟨wrap64 (255 + (wrap64 (1 + (Go.bits .and .i64 a1 1023)))), 0, 0⟩ : S72), (⟨1, 0, wrap64 (1 + (Go.bits .and .i64 a1 1023))⟩ : S72), (⟨0, 2, 1⟩ : S72), (⟨0, wrap64 (-(wrap64 (1 + (Go.bits .and .i64 a1 1023)))), 1⟩ : S72), (⟨0, wrap64 (258 + (wrap64 (1 + (Go.bits .and .i64 a1 1023)))), 1⟩ : S72), (⟨0, 3, 0⟩ : S72), (⟨0, 3, wrap64 (-(wrap64 (1 + (Go.bits .and .i64 a1 1023))))⟩ : S72), (⟨0, 3, wrap64 (1 + (wrap64 (1 + (Go.bits .and .i64 a1 1023))))⟩ : S72), (⟨wrap64 (1 + (Go.bits .and .i64 a1 1023)), 3, 1⟩ : S72)] : List (S72)) : List (S72))).bind fun y178 => (if 0 ≤ (wrap64 (Int.tmod (IntKind.u64.wrap (a0)) 10)) then (if (wrap64 (Int.tmod (IntKind.u64.wrap (a0)) 10)) < (y178.length : Int) then ((some (([(⟨65, 0, 0⟩ : S72), (⟨(rd_T72 y178 (wrap64 (Int.tmod (IntKind.u64.wrap (a0)) 10))).f0, (rd_T72 y178 (wrap64 (Int.tmod (IntKind.u64.wrap (a0)) 10))).f1, (rd_T72 y178 (wrap64 (Int.tmod (IntKind.u64.wrap (a0)) 10))).f2⟩ : S72)] : List (S72)) : List (S72))).bind fun y182 => ((match_Expand.f k y182).bind fun bt185 => (if ([] : List (S72)).length < 5864062014805 then (portagelaw5_MatchForms.l0 k y182 bt185.1 bt185.2 (([] : List (S72)) ++ [(⟨65, 0, 0⟩ : S72)]) 0) else (none)))) else (none)) else (none))) else (none)) = some r := H
  have A3 := Aside0.mk A30
  clear A30
  by_cases c4 : t176 = true
  · subst c4
    have H1 : ((some (([(⟨wrap64 (-(wrap64 (1 + (Go.bits .and .i64 a1 1023)))), 0, 0⟩ : S72), (⟨wrap64 (255 + (wrap64 (1 + (Go.bits .and .i64 a1 1023)))), 0, 0⟩ : S72), (⟨1, 0, wrap64 (1 + (Go.bits .and .i64 a1 1023))⟩ : S72), (⟨0, 2, 1⟩ : S72), (⟨0, wrap64 (-(wrap64 (1 + (Go.bits .and .i64 a1 1023)))), 1⟩ : S72), (⟨0, wrap64 (258 + (wrap64 (1 + (Go.bits .and .i64 a1 1023)))), 1⟩ : S72), (⟨0, 3, 0⟩ : S72), (⟨0, 3, wrap64 (-(wrap64 (1 + (Go.bits .and .i64 a1 1023))))⟩ : S72), (⟨0, 3, wrap64 (1 + (wrap64 (1 + (Go.bits .and .i64 a1 1023))))⟩ : S72), (⟨wrap64 (1 + (Go.bits .and .i64 a1 1023)), 3, 1⟩ : S72)] : List (S72)) : List (S72))).bind fun y178 => (if 0 ≤ (wrap64 (Int.tmod (IntKind.u64.wrap (a0)) 10)) then (if (wrap64 (Int.tmod (IntKind.u64.wrap (a0)) 10)) < (y178.length : Int) then ((some (([(⟨65, 0, 0⟩ : S72), (⟨(rd_T72 y178 (wrap64 (Int.tmod (IntKind.u64.wrap (a0)) 10))).f0, (rd_T72 y178 (wrap64 (Int.tmod (IntKind.u64.wrap (a0)) 10))).f1, (rd_T72 y178 (wrap64 (Int.tmod (IntKind.u64.wrap (a0)) 10))).f2⟩ : S72)] : List (S72)) : List (S72))).bind fun y182 => ((match_Expand.f k y182).bind fun bt185 => (if ([] : List (S72)).length < 5864062014805 then (portagelaw5_MatchForms.l0 k y182 bt185.1 bt185.2 (([] : List (S72)) ++ [(⟨65, 0, 0⟩ : S72)]) 0) else (none)))) else (none)) else (none))) = some r := by rw [if_pos rfl] at H; exact H
    clear H
    have H := H1
    clear H1
    obtain ⟨y178, hy178⟩ : ∃ y_ : List (S72), y_ = (([(⟨wrap64 (-(wrap64 (1 + (Go.bits .and .i64 a1 1023)))), 0, 0⟩ : S72), (⟨wrap64 (255 + (wrap64 (1 + (Go.bits .and .i64 a1 1023)))), 0, 0⟩ : S72), (⟨1, 0, wrap64 (1 + (Go.bits .and .i64 a1 1023))⟩ : S72), (⟨0, 2, 1⟩ : S72), (⟨0, wrap64 (-(wrap64 (1 + (Go.bits .and .i64 a1 1023)))), 1⟩ : S72), (⟨0, wrap64 (258 + (wrap64 (1 + (Go.bits .and .i64 a1 1023)))), 1⟩ : S72), (⟨0, 3, 0⟩ : S72), (⟨0, 3, wrap64 (-(wrap64 (1 + (Go.bits .and .i64 a1 1023))))⟩ : S72), (⟨0, 3, wrap64 (1 + (wrap64 (1 + (Go.bits .and .i64 a1 1023))))⟩ : S72), (⟨wrap64 (1 + (Go.bits .and .i64 a1 1023)), 3, 1⟩ : S72)] : List (S72))) := ⟨_, rfl⟩
    replace H : (if 0 ≤ (wrap64 (Int.tmod (IntKind.u64.wrap (a0)) 10)) then (if (wrap64 (Int.tmod (IntKind.u64.wrap (a0)) 10)) < (y178.length : Int) then ((some (([(⟨65, 0, 0⟩ : S72), (⟨(rd_T72 y178 (wrap64 (Int.tmod (IntKind.u64.wrap (a0)) 10))).f0, (rd_T72 y178 (wrap64 (Int.tmod (IntKind.u64.wrap (a0)) 10))).f1, (rd_T72 y178 (wrap64 (Int.tmod (IntKind.u64.wrap (a0)) 10))).f2⟩ : S72)] : List (S72)) : List (S72))).bind fun y182 => ((match_Expand.f k y182).bind fun bt185 => (if ([] : List (S72)).length < 5864062014805 then (portagelaw5_MatchForms.l0 k y182 bt185.1 bt185.2 (([] : List (S72)) ++ [(⟨65, 0, 0⟩ : S72)]) 0) else (none)))) else (none)) else (none)) = some r := by first | (rw [hy178]; with_reducible exact H) | (have H2_ := (Option.bind_some _ _).symm.trans H; rw [hy178]; with_reducible exact H2_) | (have H2_ := (Option.bind_some _ _).symm.trans H; with_reducible exact H2_) | with_reducible exact H | (rw [hy178]; exact H) | exact H
    have Ny178 := Aside0.mk hy178
    clear hy178
    obtain ⟨ji5, hji5⟩ : ∃ j_ : Int, (wrap64 (Int.tmod (IntKind.u64.wrap (a0)) 10)) = j_ := ⟨_, rfl⟩
    replace H : (if 0 ≤ (ji5) then (if (ji5) < (y178.length : Int) then ((some (([(⟨65, 0, 0⟩ : S72), (⟨(rd_T72 y178 (ji5)).f0, (rd_T72 y178 (ji5)).f1, (rd_T72 y178 (ji5)).f2⟩ : S72)] : List (S72)) : List (S72))).bind fun y182 => ((match_Expand.f k y182).bind fun bt185 => (if ([] : List (S72)).length < 5864062014805 then (portagelaw5_MatchForms.l0 k y182 bt185.1 bt185.2 (([] : List (S72)) ++ [(⟨65, 0, 0⟩ : S72)]) 0) else (none)))) else (none)) else (none)) = some r := by first | (rw [hji5] at H; exact H) | (simp only [hji5] at H ⊢; exact H)
    (try rw [hji5] at A3)
    have hji5w : (IntKind.i64.wrap (Int.tmod (IntKind.u64.wrap (a0)) 10)) = ji5 := (i64_w _).trans hji5
    by_cases c6 : 0 ≤ (ji5)
    · rw [if_pos c6] at H
      have c6b0 : decide (0 ≤ (ji5)) = true := decide_eq_true c6
      clear c6
      by_cases c7 : (ji5) < (y178.length : Int)
      · rw [if_pos c7] at H
        have c7b0 : decide ((ji5) < (y178.length : Int)) = true := decide_eq_true c7
        clear c7
        obtain ⟨y182, hy182⟩ : ∃ y_ : List (S72), y_ = (([(⟨65, 0, 0⟩ : S72), (⟨(rd_T72 y178 (ji5)).f0, (rd_T72 y178 (ji5)).f1, (rd_T72 y178 (ji5)).f2⟩ : S72)] : List (S72))) := ⟨_, rfl⟩
        replace H : ((match_Expand.f k y182).bind fun bt185 => (if ([] : List (S72)).length < 5864062014805 then (portagelaw5_MatchForms.l0 k y182 bt185.1 bt185.2 (([] : List (S72)) ++ [(⟨65, 0, 0⟩ : S72)]) 0) else (none))) = some r := by first | (rw [hy182]; with_reducible exact H) | (have H2_ := (Option.bind_some _ _).symm.trans H; rw [hy182]; with_reducible exact H2_) | (have H2_ := (Option.bind_some _ _).symm.trans H; with_reducible exact H2_) | with_reducible exact H | (rw [hy182]; exact H) | exact H
        have Ny182 := Aside0.mk hy182
        clear hy182
        replace H := Option.bind_eq_some_iff.mp H
        obtain ⟨⟨t185, t186⟩, A80, H⟩ := H
        replace H : (if ([] : List (S72)).length < 5864062014805 then (portagelaw5_MatchForms.l0 k y182 t185 t186 (([] : List (S72)) ++ [(⟨65, 0, 0⟩ : S72)]) 0) else (none)) = some r := H
        have A8 := Aside0.mk A80
        clear A80
        by_cases c9 : ([] : List (S72)).length < 5864062014805
        · rw [if_pos c9] at H
          have LMc9 := Aside0.mk c9
          clear c9
          obtain ⟨y187, hy187⟩ : ∃ y_ : List (S72), y_ = (([] : List (S72)) ++ [(⟨65, 0, 0⟩ : S72)]) := ⟨_, rfl⟩
          replace H : (portagelaw5_MatchForms.l0 k y182 t185 t186 y187 0) = some r := by first | (rw [hy187]; with_reducible exact H) | (have H2_ := (Option.bind_some _ _).symm.trans H; rw [hy187]; with_reducible exact H2_) | (have H2_ := (Option.bind_some _ _).symm.trans H; with_reducible exact H2_) | with_reducible exact H | (rw [hy187]; exact H) | exact H
          have Ny187 := Aside0.mk hy187
          clear hy187
          have H' := Aside0.mk H
          clear H
          go_enter Try.func15, Try.ntmps15
          try go_wp2_with (first | ((with_reducible refine gate_callee (f := 59) rfl ?_); refine goesL_ (some 17) rfl rfl Try.func59 (by kernel_rfl) rfl #[] rfl (by (try simp only [List.map_toArray, List.map_cons, List.map_nil]); first | done | rfl | (simp only [List.length_drop, List.length_take]; rfl)) ?_; (with_reducible refine (portagelaw5_awake.calls k  true _ A3.out).mono ?_); rintro e w10 ⟨rfl, hb⟩; refine ⟨_, rfl, ?_⟩; have n0_ := Aside0.mk (below_step (by repeat (first | (with_reducible first | exact HB.out | apply below_alloc | apply pw_below_drewN | apply below_drew1) | exact HB.out)) hb); clear HB; have HB := n0_; clear n0_; (try clear hb); (try clear hb2); (try clear hk); (try clear hi)) | ((with_reducible refine gate_dst (N := 6) rfl ?_); (try (refine gate_guard (by rfl) ?_; dsimp only)); refine box_event ?hg (N := 6) ?hd (cs := #[.int .i64 0, .int .i64 0, .int .i64 0]) (t := 72) ?hr ?_; (case hd => rfl); (case hg => rfl); (case hr => first | (go_simp; done) | (go_simp; rfl)); intro gb177 hg w11 hbox hb; have n0_ := Aside0.mk (below_step (by repeat (first | (with_reducible first | exact HB.out | apply below_alloc | apply pw_below_drewN | apply below_drew1) | exact HB.out)) hb); have n1_ := Aside0.mk (hbox); have n2_ := Aside0.mk ((by rw [hg]; exact (below_size (by repeat (first | (with_reducible first | exact HB.out | apply below_alloc | apply pw_below_drewN | apply below_drew1) | exact HB.out))) : w.heap.size ≤ gb177)); have n3_ := Aside0.mk ((by rw [hg]; exact (below_size (by repeat (first | (with_reducible first | exact HB.out | apply below_alloc | apply pw_below_drewN | apply below_drew1) | exact HB.out))) : w.heap.size ≤ gb177)); clear HB; have HB := n0_; have BK177 := n1_; have GW177 := n2_; have GE177 := n3_; clear n0_ n1_ n2_ n3_; clear hb hbox hg; have hcz12_0 : w11.cell? ⟨gb177, 0, none⟩ = some (.int .i64 0) := (blk_cell BK177.out 0).trans rfl; have hcz12_1 : w11.cell? ⟨gb177, 1, none⟩ = some (.int .i64 0) := (blk_cell BK177.out 1).trans rfl; have hcz12_2 : w11.cell? ⟨gb177, 2, none⟩ = some (.int .i64 0) := (blk_cell BK177.out 2).trans rfl; have hfz12_0 := blk_frozen BK177.out 0; have hfz12_1 := blk_frozen BK177.out 1; have hfz12_2 := blk_frozen BK177.out 2) | ((with_reducible refine gate_dst (N := 47) rfl ?_); (try (refine gate_guard (by rfl) ?_; dsimp only)); refine Kd.R_lit k72 _ 72 ?hg (N := 47) ?hd (xs := ([(⟨wrap64 (-(wrap64 (1 + (Go.bits .and .i64 a1 1023)))), 0, 0⟩ : S72), (⟨wrap64 (255 + (wrap64 (1 + (Go.bits .and .i64 a1 1023)))), 0, 0⟩ : S72), (⟨1, 0, wrap64 (1 + (Go.bits .and .i64 a1 1023))⟩ : S72), (⟨0, 2, 1⟩ : S72), (⟨0, wrap64 (-(wrap64 (1 + (Go.bits .and .i64 a1 1023)))), 1⟩ : S72), (⟨0, wrap64 (258 + (wrap64 (1 + (Go.bits .and .i64 a1 1023)))), 1⟩ : S72), (⟨0, 3, 0⟩ : S72), (⟨0, 3, wrap64 (-(wrap64 (1 + (Go.bits .and .i64 a1 1023))))⟩ : S72), (⟨0, 3, wrap64 (1 + (wrap64 (1 + (Go.bits .and .i64 a1 1023))))⟩ : S72), (⟨wrap64 (1 + (Go.bits .and .i64 a1 1023)), 3, 1⟩ : S72)] : List (S72))) (inner := [.int .i64 (wrap64 (-(wrap64 (1 + (Go.bits .and .i64 a1 1023))))), .int .i64 0, .int .i64 0, .int .i64 (wrap64 (255 + (wrap64 (1 + (Go.bits .and .i64 a1 1023))))), .int .i64 0, .int .i64 0, .int .i64 1, .int .i64 0, .int .i64 (wrap64 (1 + (Go.bits .and .i64 a1 1023))), .int .i64 0, .int .i64 2, .int .i64 1, .int .i64 0, .int .i64 (wrap64 (-(wrap64 (1 + (Go.bits .and .i64 a1 1023))))), .int .i64 1, .int .i64 0, .int .i64 (wrap64 (258 + (wrap64 (1 + (Go.bits .and .i64 a1 1023))))), .int .i64 1, .int .i64 0, .int .i64 3, .int .i64 0, .int .i64 0, .int .i64 3, .int .i64 (wrap64 (-(wrap64 (1 + (Go.bits .and .i64 a1 1023))))), .int .i64 0, .int .i64 3, .int .i64 (wrap64 (1 + (wrap64 (1 + (Go.bits .and .i64 a1 1023))))), .int .i64 (wrap64 (1 + (Go.bits .and .i64 a1 1023))), .int .i64 3, .int .i64 1]) (ok := fun _ => True) (okp := fun _ => True) ?hr ?hp (fun _ hk => hk) trivial (Below.refl _ _) (Nat.le_refl _) (by simp) ?_; (case hd => rfl); (case hg => rfl); (case hr => first | (go_simp; done) | (go_simp; rfl)); (case hp => exact (Reps.c3 (show Kd.M k72 _ _ _ (⟨wrap64 (-(wrap64 (1 + (Go.bits .and .i64 a1 1023)))), 0, 0⟩ : S72) [.int .i64 (wrap64 (-(wrap64 (1 + (Go.bits .and .i64 a1 1023))))), .int .i64 0, .int .i64 0] from (k72_mkM _ _ _ (⟨wrap64 (-(wrap64 (1 + (Go.bits .and .i64 a1 1023)))), 0, 0⟩ : S72) )) (Reps.c3 (show Kd.M k72 _ _ _ (⟨wrap64 (255 + (wrap64 (1 + (Go.bits .and .i64 a1 1023)))), 0, 0⟩ : S72) [.int .i64 (wrap64 (255 + (wrap64 (1 + (Go.bits .and .i64 a1 1023))))), .int .i64 0, .int .i64 0] from (k72_mkM _ _ _ (⟨wrap64 (255 + (wrap64 (1 + (Go.bits .and .i64 a1 1023)))), 0, 0⟩ : S72) )) (Reps.c3 (show Kd.M k72 _ _ _ (⟨1, 0, wrap64 (1 + (Go.bits .and .i64 a1 1023))⟩ : S72) [.int .i64 1, .int .i64 0, .int .i64 (wrap64 (1 + (Go.bits .and .i64 a1 1023)))] from (k72_mkM _ _ _ (⟨1, 0, wrap64 (1 + (Go.bits .and .i64 a1 1023))⟩ : S72) )) (Reps.c3 (show Kd.M k72 _ _ _ (⟨0, 2, 1⟩ : S72) [.int .i64 0, .int .i64 2, .int .i64 1] from (k72_mkM _ _ _ (⟨0, 2, 1⟩ : S72) )) (Reps.c3 (show Kd.M k72 _ _ _ (⟨0, wrap64 (-(wrap64 (1 + (Go.bits .and .i64 a1 1023)))), 1⟩ : S72) [.int .i64 0, .int .i64 (wrap64 (-(wrap64 (1 + (Go.bits .and .i64 a1 1023))))), .int .i64 1] from (k72_mkM _ _ _ (⟨0, wrap64 (-(wrap64 (1 + (Go.bits .and .i64 a1 1023)))), 1⟩ : S72) )) (Reps.c3 (show Kd.M k72 _ _ _ (⟨0, wrap64 (258 + (wrap64 (1 + (Go.bits .and .i64 a1 1023)))), 1⟩ : S72) [.int .i64 0, .int .i64 (wrap64 (258 + (wrap64 (1 + (Go.bits .and .i64 a1 1023))))), .int .i64 1] from (k72_mkM _ _ _ (⟨0, wrap64 (258 + (wrap64 (1 + (Go.bits .and .i64 a1 1023)))), 1⟩ : S72) )) (Reps.c3 (show Kd.M k72 _ _ _ (⟨0, 3, 0⟩ : S72) [.int .i64 0, .int .i64 3, .int .i64 0] from (k72_mkM _ _ _ (⟨0, 3, 0⟩ : S72) )) (Reps.c3 (show Kd.M k72 _ _ _ (⟨0, 3, wrap64 (-(wrap64 (1 + (Go.bits .and .i64 a1 1023))))⟩ : S72) [.int .i64 0, .int .i64 3, .int .i64 (wrap64 (-(wrap64 (1 + (Go.bits .and .i64 a1 1023)))))] from (k72_mkM _ _ _ (⟨0, 3, wrap64 (-(wrap64 (1 + (Go.bits .and .i64 a1 1023))))⟩ : S72) )) (Reps.c3 (show Kd.M k72 _ _ _ (⟨0, 3, wrap64 (1 + (wrap64 (1 + (Go.bits .and .i64 a1 1023))))⟩ : S72) [.int .i64 0, .int .i64 3, .int .i64 (wrap64 (1 + (wrap64 (1 + (Go.bits .and .i64 a1 1023)))))] from (k72_mkM _ _ _ (⟨0, 3, wrap64 (1 + (wrap64 (1 + (Go.bits .and .i64 a1 1023))))⟩ : S72) )) (Reps.c3 (show Kd.M k72 _ _ _ (⟨wrap64 (1 + (Go.bits .and .i64 a1 1023)), 3, 1⟩ : S72) [.int .i64 (wrap64 (1 + (Go.bits .and .i64 a1 1023))), .int .i64 3, .int .i64 1] from (k72_mkM _ _ _ (⟨wrap64 (1 + (Go.bits .and .i64 a1 1023)), 3, 1⟩ : S72) )) (Reps.none _ _)))))))))))); intro v179 w13 ho14 hb hg_ hnew_; clear hg_ hnew_; (first | rw [← Ny178.out] at ho14 | (simp only [Int.reduceToNat] at ho14; rw [← Ny178.out] at ho14)); have n0_ := Aside0.mk (Kd.R_lower (Kd.R_newB ho14 (g := gb177) (o := .cells #[.int .i64 65, .int .i64 0, .int .i64 0] 72 (0, 0)) (by (with_reducible repeat (first | refine blk_drewN ?_ _ | refine blk_drew ?_ | refine blk_alloc ?_ _)); refine blk_put (cs := #[.int .i64 65, .int .i64 0, .int .i64 0]) ?_ 2 _ rfl; (with_reducible repeat (first | refine blk_drewN ?_ _ | refine blk_drew ?_ | refine blk_alloc ?_ _)); refine blk_put (cs := #[.int .i64 65, .int .i64 0, .int .i64 0]) ?_ 1 _ rfl; (with_reducible repeat (first | refine blk_drewN ?_ _ | refine blk_drew ?_ | refine blk_alloc ?_ _)); refine blk_put (cs := #[.int .i64 0, .int .i64 0, .int .i64 0]) ?_ 0 _ rfl; (with_reducible repeat (first | refine blk_drewN ?_ _ | refine blk_drew ?_ | refine blk_alloc ?_ _)); exact BK177.out)) (below_size (by repeat (first | (with_reducible first | exact HB.out | apply below_alloc | apply pw_below_drewN | apply below_drew1 | refine below_set ?_ GE177.out) | exact HB.out)))); have n1_ := Aside0.mk (blk_below (g := gb177) (o := .cells #[.int .i64 65, .int .i64 0, .int .i64 0] 72 (0, 0)) (by (with_reducible repeat (first | refine blk_drewN ?_ _ | refine blk_drew ?_ | refine blk_alloc ?_ _)); refine blk_put (cs := #[.int .i64 65, .int .i64 0, .int .i64 0]) ?_ 2 _ rfl; (with_reducible repeat (first | refine blk_drewN ?_ _ | refine blk_drew ?_ | refine blk_alloc ?_ _)); refine blk_put (cs := #[.int .i64 65, .int .i64 0, .int .i64 0]) ?_ 1 _ rfl; (with_reducible repeat (first | refine blk_drewN ?_ _ | refine blk_drew ?_ | refine blk_alloc ?_ _)); refine blk_put (cs := #[.int .i64 0, .int .i64 0, .int .i64 0]) ?_ 0 _ rfl; (with_reducible repeat (first | refine blk_drewN ?_ _ | refine blk_drew ?_ | refine blk_alloc ?_ _)); exact BK177.out) hb); have n2_ := Aside0.mk (below_step (by repeat (first | (with_reducible first | exact HB.out | apply below_alloc | apply pw_below_drewN | apply below_drew1 | refine below_set ?_ GE177.out) | exact HB.out)) hb); clear BK177; clear HB; have HO180 := n0_; have BK177 := n1_; have HB := n2_; clear n0_ n1_ n2_; clear hb ho14))
          have n0_ := Aside0.mk (Kd.R_drew HO180.out)
          have n1_ := Aside0.mk (blk_drew BK177.out)
          have n2_ := Aside0.mk (below_drew1 HB.out)
          clear HO180
          clear BK177
          clear HB
          have HO180 := n0_
          have BK177 := n1_
          have HB := n2_
          clear n0_ n1_ n2_
          obtain ⟨Ao16, co16, eo16⟩ := Kd.R_slice HO180.out
          (first | subst eo16 | (injection eo16 with f1_ f2_ f3_; have f4_ := f1_.symm; have f5_ := f3_.symm; clear f1_ f2_ f3_; subst f4_; subst f5_))
          have p181 : 0 ≤ ((ji5) : Int) := of_decide_eq_true (by first | (with_reducible assumption) | assumption)
          have q181 : (ji5) < (y178.length : Int) := of_decide_eq_true (by first | (with_reducible assumption) | assumption)
          obtain ⟨ad181, e181, hx181_0, hx181_1, hx181_2⟩ := at_T72 (Kd.R_reads' HO180.out).2.2 (ji5) p181 q181
          cases e181
          replace p181 := eq_true p181
          replace q181 := eq_true q181
          refine start_ (n := 10) (S := fun w' => w'.cell? ⟨gb177, 0, none⟩ = some (.int .i64 65) ∧ w'.cell? ⟨gb177, 1, none⟩ = some (.int .i64 0) ∧ w'.cell? ⟨gb177, 2, none⟩ = some (.int .i64 0) ∧ w'.cell? (ad181.add (((ji5)).toNat * 3)) = some (.int .i64 ((rd_T72 y178 (ji5)).f0)) ∧ w'.cell? ⟨(ad181.add (((ji5)).toNat * 3)).block, (ad181.add (((ji5)).toNat * 3)).off + 1, none⟩ = some (.int .i64 ((rd_T72 y178 (ji5)).f1)) ∧ w'.cell? ⟨(ad181.add (((ji5)).toNat * 3)).block, (ad181.add (((ji5)).toNat * 3)).off + 2, none⟩ = some (.int .i64 ((rd_T72 y178 (ji5)).f2))) (ds := []) #[false, false, false, false, false, false, false, false, false, false] (by kernel_rfl) rfl rfl ⟨(blk_cell BK177.out 0).trans rfl, (blk_cell BK177.out 1).trans rfl, (blk_cell BK177.out 2).trans rfl, hx181_0, hx181_1, hx181_2⟩ (fun hHeld => ?_); refine with_tabW portagelaw5_MatchForms.tab6 portagelaw5_MatchForms.bits6 (fun HT_ HW_ => ?_)
          generalize w13.drew = w15 at HO180 BK177 HB hx181_0 hx181_1 hx181_2 hHeld ⊢
          refine pure_ (i := 1) (N := some 49) (v := ?_) (a' := ?_) #[false, true, false, false, false, false, false, false, false, false] rfl rfl (any_of HT_.out (by kernel_rfl)) (fun _ _ _ h => h) (Or.inl ⟨by rfl, ?_⟩) ?_ ?_
          rotate_left
          · intro w'
            go_simp
            with_reducible rfl
          rotate_left
          · simp only [Act.put, List.setIfInBounds_toArray, List.set_cons_zero, List.set_cons_succ, i64_w, i32_w]
            rfl
          refine pure_ (i := 2) (N := some 50) (v := ?_) (a' := ?_) #[false, true, true, false, false, false, false, false, false, false] rfl rfl (any_of HT_.out (by kernel_rfl)) (fun _ _ _ h => h) (Or.inl ⟨by rfl, ?_⟩) ?_ ?_
          rotate_left
          · intro w'
            go_simp
            with_reducible rfl
          rotate_left
          · simp only [Act.put, List.setIfInBounds_toArray, List.set_cons_zero, List.set_cons_succ, i64_w, i32_w]
            rfl
          refine pure_ (i := 3) (N := some 51) (v := ?_) (a' := ?_) #[false, true, true, true, false, false, false, false, false, false] rfl rfl (any_of HT_.out (by kernel_rfl)) (fun _ _ _ h => h) (Or.inl ⟨by rfl, ?_⟩) ?_ ?_
          rotate_left
          · intro w'
            go_simp
            with_reducible rfl
          rotate_left
          · simp only [Act.put, List.setIfInBounds_toArray, List.set_cons_zero, List.set_cons_succ, i64_w, i32_w]
            rfl
          refine pure_ (i := 4) (N := some 52) (v := ?_) (a' := ?_) #[false, true, true, true, true, false, false, false, false, false] rfl rfl (any_of HT_.out (by kernel_rfl)) (fun _ _ _ h => h) (Or.inl ⟨by rfl, ?_⟩) ?_ ?_
          rotate_left
          · intro w'
            go_simp
            with_reducible rfl
          rotate_left
          · simp only [Act.put, List.setIfInBounds_toArray, List.set_cons_zero, List.set_cons_succ, i64_w, i32_w]
            rfl
          refine pure_ (i := 5) (N := some 53) (v := ?_) (a' := ?_) #[false, true, true, true, true, true, false, false, false, false] rfl rfl (any_of HT_.out (by kernel_rfl)) (fun _ _ _ h => h) (Or.inl ⟨by rfl, ?_⟩) ?_ ?_
          rotate_left
          · intro w'
            go_simp
            with_reducible rfl
          rotate_left
          · simp only [Act.put, List.setIfInBounds_toArray, List.set_cons_zero, List.set_cons_succ, i64_w, i32_w]
            rfl
          refine pure_ (i := 6) (N := some 54) (v := ?_) (a' := ?_) #[false, true, true, true, true, true, true, false, false, false] rfl rfl (any_of HT_.out (by kernel_rfl)) (fun _ _ _ h => h) (Or.inl ⟨by rfl, ?_⟩) ?_ ?_
          rotate_left
          · intro w'
            go_simp
            with_reducible rfl
          rotate_left
          · simp only [Act.put, List.setIfInBounds_toArray, List.set_cons_zero, List.set_cons_succ, i64_w, i32_w]
            rfl
          refine take_ (i := 0) (N := some 48) (v := ?_) (a' := ?_) #[true, true, true, true, true, true, true, false, false, false] rfl rfl (take_ofW HT_.out HW_.out (by kernel_rfl)) (fun _ _ _ h => h) (Or.inl ⟨by rfl, ?_⟩) hHeld ?_ ?_
          rotate_left
          · rintro w' ⟨s0, s1, s2, s3, s4, s5⟩
            go_simp
            with_reducible rfl
          rotate_left
          · simp only [Act.put, List.setIfInBounds_toArray, List.set_cons_zero, List.set_cons_succ, i64_w, i32_w]
            rfl
          refine take_ (i := 7) (N := some 55) (v := ?_) (a' := ?_) #[true, true, true, true, true, true, true, true, false, false] rfl rfl (take_ofW HT_.out HW_.out (by kernel_rfl)) (fun _ _ _ h => h) (Or.inl ⟨by rfl, ?_⟩) hHeld ?_ ?_
          rotate_left
          · rintro w' ⟨s0, s1, s2, s3, s4, s5⟩
            go_simp
            with_reducible rfl
          rotate_left
          · simp only [Act.put, List.setIfInBounds_toArray, List.set_cons_zero, List.set_cons_succ, i64_w, i32_w]
            rfl
          refine one_ (i := 8) (N := some 56) #[true, true, true, true, true, true, true, true, true, false] rfl rfl (one_of HT_.out (by kernel_rfl)) (by decide) (fun K hK => ?_)
          refine Kd.R_lit_step k72 _ 72 ?hg (N := 56) ?hd (xs := ([(⟨65, 0, 0⟩ : S72), (⟨(rd_T72 y178 (ji5)).f0, (rd_T72 y178 (ji5)).f1, (rd_T72 y178 (ji5)).f2⟩ : S72)] : List (S72))) (inner := [.int .i64 65, .int .i64 0, .int .i64 0, .int .i64 ((rd_T72 y178 (ji5)).f0), .int .i64 ((rd_T72 y178 (ji5)).f1), .int .i64 ((rd_T72 y178 (ji5)).f2)]) (ok := fun _ => True) (okp := fun _ => True) ?hr ?hp (fun _ hk => hk) trivial (Below.refl _ _) (Nat.le_refl _) (by simp) ?_; (case hd => rfl); (case hg => rfl); (case hr => first | (go_simp; done) | (go_simp; rfl)); (case hp => exact (Reps.c3 (show Kd.M k72 _ _ _ (⟨65, 0, 0⟩ : S72) [.int .i64 65, .int .i64 0, .int .i64 0] from (k72_mkM _ _ _ (⟨65, 0, 0⟩ : S72) )) (Reps.c3 (show Kd.M k72 _ _ _ (⟨(rd_T72 y178 (ji5)).f0, (rd_T72 y178 (ji5)).f1, (rd_T72 y178 (ji5)).f2⟩ : S72) [.int .i64 ((rd_T72 y178 (ji5)).f0), .int .i64 ((rd_T72 y178 (ji5)).f1), .int .i64 ((rd_T72 y178 (ji5)).f2)] from (k72_mkM _ _ _ (⟨(rd_T72 y178 (ji5)).f0, (rd_T72 y178 (ji5)).f1, (rd_T72 y178 (ji5)).f2⟩ : S72) )) (Reps.none _ _))))
          intro v183 w17 ho18 hb hg_ hnew_
          have HS3_ := (hb.cell (World.block_lt_of_cell? _ _ (hHeld.2.2.2.1))).trans (hHeld.2.2.2.1)
          have HS4_ := (hb.cell (World.block_lt_of_cell? _ _ (hHeld.2.2.2.2.1))).trans (hHeld.2.2.2.2.1)
          have HS5_ := (hb.cell (World.block_lt_of_cell? _ _ (hHeld.2.2.2.2.2))).trans (hHeld.2.2.2.2.2)
          clear hg_ hnew_
          (first | rw [← Ny182.out] at ho18 | (simp only [Int.reduceToNat] at ho18; rw [← Ny182.out] at ho18))
          have n0_ := Aside0.mk (Kd.R_elder' (by (with_reducible repeat (first | apply Kd.R_alloc | apply Kd.R_drewN | apply Kd.R_drew)); exact HO180.out) (Kd.R_base ho18) hb)
          have n1_ := Aside0.mk (Kd.R_lower (Kd.R_newB (Kd.R_new' ho18 (Kd.R_lt (by (with_reducible repeat (first | apply Kd.R_alloc | apply Kd.R_drewN | apply Kd.R_drew)); exact HO180.out))) (g := gb177) (o := .cells #[.int .i64 65, .int .i64 0, .int .i64 0] 72 (0, 0)) (by (with_reducible repeat (first | refine blk_drewN ?_ _ | refine blk_drew ?_ | refine blk_alloc ?_ _)); exact BK177.out)) (below_size (by repeat (first | (with_reducible first | exact HB.out | apply below_alloc | apply pw_below_drewN | apply below_drew1 | refine below_set ?_ GE177.out) | exact HB.out))))
          have n2_ := Aside0.mk (blk_below (g := gb177) (o := .cells #[.int .i64 65, .int .i64 0, .int .i64 0] 72 (0, 0)) (by (with_reducible repeat (first | refine blk_drewN ?_ _ | refine blk_drew ?_ | refine blk_alloc ?_ _)); exact BK177.out) hb)
          have n3_ := Aside0.mk (below_step (by repeat (first | (with_reducible first | exact HB.out | apply below_alloc | apply pw_below_drewN | apply below_drew1 | refine below_set ?_ GE177.out) | exact HB.out)) hb)
          clear HO180
          clear BK177
          clear HB
          have HO180 := n0_
          have HO184 := n1_
          have BK177 := n2_
          have HB := n3_
          clear n0_ n1_ n2_ n3_
          clear hb ho18
          refine hK.out _ _ ⟨(blk_cell BK177.out 0).trans rfl, (blk_cell BK177.out 1).trans rfl, (blk_cell BK177.out 2).trans rfl, HS3_, HS4_, HS5_⟩ (fun hHeld => ?_)
          clear hK K
          refine norm_ (a' := ?_) ?_ ?_
          rotate_left
          · show Act.put _ (some 56) _ = _
            simp only [Act.put, List.setIfInBounds_toArray, List.set_cons_zero, List.set_cons_succ, i64_w, i32_w]
            rfl
          refine pure_ (i := 9) (N := some 8) (v := ?_) (a' := ?_) #[true, true, true, true, true, true, true, true, true, true] rfl rfl (any_of HT_.out (by kernel_rfl)) (fun _ _ _ h => h) (Or.inl ⟨by rfl, ?_⟩) ?_ ?_
          rotate_left
          · intro w'
            go_simp
            with_reducible rfl
          rotate_left
          · simp only [Act.put, List.setIfInBounds_toArray, List.set_cons_zero, List.set_cons_succ, i64_w, i32_w]
            rfl
          refine done_ (done_of HT_.out (by kernel_rfl)) ?_
          obtain ⟨Ao19, co19, eo19⟩ := Kd.R_slice HO184.out
          subst eo19
          try go_wp2_with (first | ((with_reducible refine gate_callee (f := 52) rfl ?_); refine goesL_ (some 59) rfl rfl Try.func52 (by kernel_rfl) rfl #[.slice Ao19 y182.length co19] rfl (by (try simp only [List.map_toArray, List.map_cons, List.map_nil]); first | done | rfl | (simp only [List.length_drop, List.length_take]; rfl)) ?_; (with_reducible refine (match_Expand.calls k _ _ y182 t185 t186 _ ?side1 ?side2 A8.out).mono ?_); (case side1 => repeat (first | exact (Kd.R_reads' HO184.out).2.2 | (with_reducible refine Kd.C_alloc ?_ _) | (with_reducible refine Kd.C_drewN ?_ _) | (with_reducible refine Kd.C_drew ?_))); (case side2 => exact (Kd.R_reads' HO184.out).2.1); rintro e w20 ⟨rfl, hb⟩; refine ⟨_, rfl, ?_⟩; have n0_ := Aside0.mk (Kd.R_below (by (with_reducible repeat (first | apply Kd.R_alloc | apply Kd.R_drewN | apply Kd.R_drew)); exact HO180.out) hb); have n1_ := Aside0.mk (Kd.R_below (by (with_reducible repeat (first | apply Kd.R_alloc | apply Kd.R_drewN | apply Kd.R_drew)); exact HO184.out) hb); have n2_ := Aside0.mk (blk_below (g := gb177) (o := .cells #[.int .i64 65, .int .i64 0, .int .i64 0] 72 (0, 0)) (by (with_reducible repeat (first | refine blk_drewN ?_ _ | refine blk_drew ?_ | refine blk_alloc ?_ _)); exact BK177.out) hb); have n3_ := Aside0.mk (below_step (by repeat (first | (with_reducible first | exact HB.out | apply below_alloc | apply pw_below_drewN | apply below_drew1 | refine below_set ?_ GE177.out) | exact HB.out)) hb); clear HO180; clear HO184; clear BK177; clear HB; have HO180 := n0_; have HO184 := n1_; have BK177 := n2_; have HB := n3_; clear n0_ n1_ n2_ n3_; (try clear hb); (try clear hb2); (try clear hk); (try clear hi); have hcz21_0 : w20.cell? ⟨gb177, 0, none⟩ = some (.int .i64 65) := (blk_cell BK177.out 0).trans rfl; have hcz21_1 : w20.cell? ⟨gb177, 1, none⟩ = some (.int .i64 0) := (blk_cell BK177.out 1).trans rfl; have hcz21_2 : w20.cell? ⟨gb177, 2, none⟩ = some (.int .i64 0) := (blk_cell BK177.out 2).trans rfl; have hfz21_0 := blk_frozen BK177.out 0; have hfz21_1 := blk_frozen BK177.out 1; have hfz21_2 := blk_frozen BK177.out 2) | ((with_reducible refine gate_builtin (b := .append) (xs := #[.tmp 62, .tmp 64]) rfl ?_); (try (refine gate_guard (by rfl) ?_; dsimp only)); at_builtin; refine Kd.R_append k72 (w0 := w) w.heap.size rfl (.tmp 62) (.tmp 64) 57 72 (.agg #[(.int .i64 0), (.int .i64 0), (.int .i64 0)]) 24 rfl Try.underlying57 info72 rfl (by decide) (by omega) (.slice none 0 0) ([] : List (S72)) (⟨65, 0, 0⟩ : S72) [.int .i64 65, .int .i64 0, .int .i64 0] (fun k_ => some k_ ≠ (.slice (some ad181) y178.length co16 : Value).ownBlock ∧ some k_ ≠ (.slice Ao19 y182.length co19 : Value).ownBlock ∧ k_ ≠ gb177) (fun _ => False) rfl rfl ?aP (fun _ hk => hk.elim) ?aF ?aO ?aB ?aS ?aL ?_; (case aP => exact k72_mkM _ _ _ (⟨65, 0, 0⟩ : S72)); (case aB => exact (by repeat (first | (with_reducible first | exact HB.out | apply below_alloc | apply pw_below_drewN | apply below_drew1 | refine below_set ?_ GE177.out) | exact HB.out))); (case aF => exact (fun k_ hk => ⟨Kd.fresh' (Kd.R_lt (by (with_reducible repeat (first | apply Kd.R_alloc | apply Kd.R_drewN | apply Kd.R_drew)); exact HO180.out)) k_ hk, Kd.fresh' (Kd.R_lt (by (with_reducible repeat (first | apply Kd.R_alloc | apply Kd.R_drewN | apply Kd.R_drew)); exact HO184.out)) k_ hk, Kd.freshB (g := gb177) (o := .cells #[.int .i64 65, .int .i64 0, .int .i64 0] 72 (0, 0)) (by (with_reducible repeat (first | refine blk_drewN ?_ _ | refine blk_drew ?_ | refine blk_alloc ?_ _)); exact BK177.out) k_ hk⟩)); (case aO => exact ((Kd.R_nil _ _ _ _ (fun k_ => some k_ ≠ (.slice (some ad181) y178.length co16 : Value).ownBlock ∧ some k_ ≠ (.slice Ao19 y182.length co19 : Value).ownBlock ∧ k_ ≠ gb177)))); (case aS => exact (below_size (by repeat (first | (with_reducible first | exact HB.out | apply below_alloc | apply pw_below_drewN | apply below_drew1 | refine below_set ?_ GE177.out) | exact HB.out)))); (case aL => have := LMc9.out; omega); intro v188 w22 ho hb hg hat; rw [← Ny187.out] at ho; have n0_ := Aside0.mk (blk_grown (g := gb177) (o := .cells #[.int .i64 65, .int .i64 0, .int .i64 0] 72 (0, 0)) (by (with_reducible repeat (first | refine blk_drewN ?_ _ | refine blk_drew ?_ | refine blk_alloc ?_ _)); exact BK177.out) hg (by simp [Value.ownBlock])); have n1_ := Aside0.mk (Kd.R_after (Kd.R_apart_nil (by (with_reducible repeat (first | apply Kd.R_alloc | apply Kd.R_drewN | apply Kd.R_drew)); exact HO180.out)) hg hat); have n2_ := Aside0.mk (Kd.R_after (Kd.R_apart_nil (by (with_reducible repeat (first | apply Kd.R_alloc | apply Kd.R_drewN | apply Kd.R_drew)); exact HO184.out)) hg hat); have n3_ := Aside0.mk (hb); have n4_ := Aside0.mk (ho); clear BK177; clear HO180; clear HO184; clear HB; have BK177 := n0_; have HO180 := n1_; have HO184 := n2_; have HB := n3_; have HO189 := n4_; clear n0_ n1_ n2_ n3_ n4_; clear ho hb hg hat))
          go_loopg [11, 12] k (fun kq v11 v12 w' => ∃ (x11_1 : List (S72)) (x12_1 : Int), v12 = .int .i64 x12_1 ∧ Aside0 (portagelaw5_MatchForms.l0 kq y182 t185 t186 x11_1 x12_1 = some r) ∧ Aside0 (kq ≤ k) ∧ Aside0 (Kd.R k72 72 w' w.heap.size (fun k_ => some k_ ≠ (v11 : Value).ownBlock ∧ k_ ≠ gb177) (.slice Ao19 y182.length co19) y182) ∧ Aside0 (Kd.R k72 72 w' w.heap.size (fun k_ => some k_ ≠ ((.slice Ao19 y182.length co19) : Value).ownBlock ∧ k_ ≠ gb177) v11 x11_1) ∧ Aside0 (w'.heap[gb177]? = some (.cells #[.int .i64 65, .int .i64 0, .int .i64 0] 72 (0, 0))) ∧ Aside0 (Below w.heap.size w w'))
          case atStart => exact ⟨(y187), (0), (by first | rfl | (simp; done) | (simp [*]; done)), H', ⟨Nat.le_refl _⟩, ⟨by (with_reducible repeat (first | apply Kd.R_alloc | apply Kd.R_drewN | apply Kd.R_drew)); exact Kd.R_mono HO184.out (fun _ hk => ⟨hk.2, hk.1.2⟩)⟩, ⟨by (with_reducible repeat (first | apply Kd.R_alloc | apply Kd.R_drewN | apply Kd.R_drew)); exact Kd.R_mono HO189.out (fun _ hk => ⟨hk.2.1, hk.2.2⟩)⟩, ⟨by (with_reducible repeat (first | refine blk_drewN ?_ _ | refine blk_drew ?_ | refine blk_alloc ?_ _)); exact BK177.out⟩, ⟨by repeat (first | (with_reducible first | exact HB.out | apply below_alloc | apply pw_below_drewN | apply below_drew1 | refine below_set ?_ GE177.out) | exact HB.out)⟩⟩
          case round =>
            clear H'
            try clear c1
            try clear p1
            try clear q1
            try clear hx1
            try clear p2
            try clear c3
            try clear c4
            try clear c5
            try clear c6
            try clear c6b0
            try clear p6
            try clear c7
            try clear c7b0
            try clear c9
            try clear c15
            try clear p18
            try clear q18
            try clear hx18
            try clear hcz12_0
            try clear hcz12_1
            try clear hcz12_2
            try clear hcz21_0
            try clear hcz21_1
            try clear hcz21_2
            try clear hfz12_0
            try clear hfz12_1
            try clear hfz12_2
            try clear hfz21_0
            try clear hfz21_1
            try clear hfz21_2
            try clear hx181_0
            try clear hx181_1
            try clear hx181_2
            try clear p181
            try clear q181
            obtain ⟨x11_1, x12_1, rfl, HA, HK1, HO_8, HO_11, BK177, HB⟩ := hrel
            cases gk with
            | zero => exact absurd HA.out (by simp [portagelaw5_MatchForms.l0])
            | succ k1 =>
              have H := HA.out
              clear HA
              simp only [portagelaw5_MatchForms.l0] at H
              by_cases c23 : x12_1 < 32
              · rw [if_pos c23] at H
                have c23b0 : decide (x12_1 < 32) = true := decide_eq_true c23
                clear c23
                by_cases c24 : x11_1.length < 5864062014805
                · rw [if_pos c24] at H
                  have LMc24 := Aside0.mk c24
                  clear c24
                  obtain ⟨y190, hy190⟩ : ∃ y_ : List (S72), y_ = (x11_1 ++ [(⟨0, 258, 1⟩ : S72)]) := ⟨_, rfl⟩
                  replace H : (portagelaw5_MatchForms.l0 k1 y182 t185 t186 y190 (wrap64 (x12_1 + 1))) = some r := by first | (rw [hy190]; with_reducible exact H) | (have H2_ := (Option.bind_some _ _).symm.trans H; rw [hy190]; with_reducible exact H2_) | (have H2_ := (Option.bind_some _ _).symm.trans H; with_reducible exact H2_) | with_reducible exact H | (rw [hy190]; exact H) | exact H
                  have Ny190 := Aside0.mk hy190
                  clear hy190
                  have H' := Aside0.mk H
                  clear H
                  go_wp2_with (first | ((with_reducible refine gate_builtin (b := .append) (xs := #[.tmp 70, .tmp 72]) rfl ?_); (try (refine gate_guard (by rfl) ?_; dsimp only)); at_builtin; refine Kd.R_append k72 (w0 := w) w.heap.size rfl (.tmp 70) (.tmp 72) 57 72 (.agg #[(.int .i64 0), (.int .i64 0), (.int .i64 0)]) 24 rfl Try.underlying57 info72 rfl (by decide) (by omega) u11 x11_1 (⟨0, 258, 1⟩ : S72) [.int .i64 0, .int .i64 258, .int .i64 1] (fun k_ => some k_ ≠ (.slice Ao19 y182.length co19 : Value).ownBlock ∧ k_ ≠ gb177) (fun _ => False) rfl rfl ?aP (fun _ hk => hk.elim) ?aF ?aO ?aB ?aS ?aL ?_; (case aP => exact k72_mkM _ _ _ (⟨0, 258, 1⟩ : S72)); (case aB => exact (by repeat (first | (with_reducible first | exact HB.out | apply below_alloc | apply pw_below_drewN | apply below_drew1 | refine below_set ?_ GE177.out) | exact HB.out))); (case aF => exact (fun k_ hk => ⟨Kd.fresh' (Kd.R_lt (by (with_reducible repeat (first | apply Kd.R_alloc | apply Kd.R_drewN | apply Kd.R_drew)); exact HO_8.out)) k_ hk, Kd.freshB (g := gb177) (o := .cells #[.int .i64 65, .int .i64 0, .int .i64 0] 72 (0, 0)) (by (with_reducible repeat (first | refine blk_drewN ?_ _ | refine blk_drew ?_ | refine blk_alloc ?_ _)); exact BK177.out) k_ hk⟩)); (case aO => exact (by (with_reducible repeat (first | apply Kd.R_alloc | apply Kd.R_drewN | apply Kd.R_drew)); exact HO_11.out)); (case aS => exact (below_size (by repeat (first | (with_reducible first | exact HB.out | apply below_alloc | apply pw_below_drewN | apply below_drew1 | refine below_set ?_ GE177.out) | exact HB.out)))); (case aL => have := LMc24.out; omega); intro v191 w25 ho hb hg hat; rw [← Ny190.out] at ho; have n0_ := Aside0.mk (Kd.R_after (ok := (fun k_ => k_ ≠ gb177)) (by (with_reducible repeat (first | apply Kd.R_alloc | apply Kd.R_drewN | apply Kd.R_drew)); exact Kd.R_mono HO_8.out (fun _ hk => ⟨hk.2, hk.1⟩)) hg hat); have n1_ := Aside0.mk (blk_grown (g := gb177) (o := .cells #[.int .i64 65, .int .i64 0, .int .i64 0] 72 (0, 0)) (by (with_reducible repeat (first | refine blk_drewN ?_ _ | refine blk_drew ?_ | refine blk_alloc ?_ _)); exact BK177.out) hg (Kd.R_away HO_11.out (fun _ hk => hk.2))); have n2_ := Aside0.mk (hb); have n3_ := Aside0.mk (ho); clear HO_8; clear BK177; clear HB; clear HO_11; have HO_8 := n0_; have BK177 := n1_; have HB := n2_; have HO192 := n3_; clear n0_ n1_ n2_ n3_; clear ho hb hg hat))
                  go_roundg k1
                  case measure => have := HK1.out; omega
                  case rel => exact ⟨(y190), (wrap64 (x12_1 + 1)), (by first | rfl | (simp; done) | (simp [*]; done)), H', ⟨by have := HK1.out; omega⟩, ⟨by (with_reducible repeat (first | apply Kd.R_alloc | apply Kd.R_drewN | apply Kd.R_drew)); exact Kd.R_mono HO_8.out (fun _ hk => ⟨hk.2, hk.1⟩)⟩, ⟨by (with_reducible repeat (first | apply Kd.R_alloc | apply Kd.R_drewN | apply Kd.R_drew)); exact HO192.out⟩, ⟨by (with_reducible repeat (first | refine blk_drewN ?_ _ | refine blk_drew ?_ | refine blk_alloc ?_ _)); exact BK177.out⟩, ⟨by repeat (first | (with_reducible first | exact HB.out | apply below_alloc | apply pw_below_drewN | apply below_drew1 | refine below_set ?_ GE177.out) | exact HB.out)⟩⟩
                · rw [if_neg c24] at H
                  exact absurd H (by simp)
              · rw [if_neg c23] at H
                have c23b0 : decide (x12_1 < 32) = false := decide_eq_false c23
                clear c23
                replace H := Option.bind_eq_some_iff.mp H
                obtain ⟨⟨t193, t194⟩, A260, H⟩ := H
                replace H : (if 30 ≤ (x11_1.length : Int) then ((match_Expand.f k1 (x11_1.take 30)).bind fun bt199 => ((match_May.f k1 y182).bind fun t201 => (if t201 = true then (none) else (if t185.toList = ([] : List UInt8) then ((portagelaw0_Num.f t186).bind fun t202 => (if t202 = 500 then ((match_May.f k1 x11_1).bind fun t203 => (if t203 = true then (none) else ((portagelaw0_Num.f t194).bind fun t204 => (if t204 = 500 then (if (bt199.1.size : Int) = 7483 then ((portagelaw0_Num.f bt199.2).bind fun t205 => (some (t205 == 0))) else (none)) else (none))))) else (none))) else (none))))) else (none)) = some r := H
                have A26 := Aside0.mk A260
                clear A260
                by_cases c27 : 30 ≤ (x11_1.length : Int)
                · rw [if_pos c27] at H
                  have c27b0 := eq_true c27
                  have c27b1 : decide (30 ≤ (x11_1.length : Int)) = true := decide_eq_true c27
                  clear c27
                  obtain ⟨y195, hy195⟩ : ∃ y_ : List (S72), y_ = (x11_1.take 30) := ⟨_, rfl⟩
                  replace H : ((match_Expand.f k1 y195).bind fun bt199 => ((match_May.f k1 y182).bind fun t201 => (if t201 = true then (none) else (if t185.toList = ([] : List UInt8) then ((portagelaw0_Num.f t186).bind fun t202 => (if t202 = 500 then ((match_May.f k1 x11_1).bind fun t203 => (if t203 = true then (none) else ((portagelaw0_Num.f t194).bind fun t204 => (if t204 = 500 then (if (bt199.1.size : Int) = 7483 then ((portagelaw0_Num.f bt199.2).bind fun t205 => (some (t205 == 0))) else (none)) else (none))))) else (none))) else (none))))) = some r := by first | (rw [hy195]; with_reducible exact H) | (have H2_ := (Option.bind_some _ _).symm.trans H; rw [hy195]; with_reducible exact H2_) | (have H2_ := (Option.bind_some _ _).symm.trans H; with_reducible exact H2_) | with_reducible exact H | (rw [hy195]; exact H) | exact H
                  have Ny195 := Aside0.mk hy195
                  clear hy195
                  replace H := Option.bind_eq_some_iff.mp H
                  obtain ⟨⟨t199, t200⟩, A280, H⟩ := H
                  replace H : ((match_May.f k1 y182).bind fun t201 => (if t201 = true then (none) else (if t185.toList = ([] : List UInt8) then ((portagelaw0_Num.f t186).bind fun t202 => (if t202 = 500 then ((match_May.f k1 x11_1).bind fun t203 => (if t203 = true then (none) else ((portagelaw0_Num.f t194).bind fun t204 => (if t204 = 500 then (if (t199.size : Int) = 7483 then ((portagelaw0_Num.f t200).bind fun t205 => (some (t205 == 0))) else (none)) else (none))))) else (none))) else (none)))) = some r := H
                  have A28 := Aside0.mk A280
                  clear A280
                  replace H := Option.bind_eq_some_iff.mp H
                  obtain ⟨t201, A290, H⟩ := H
                  replace H : (if t201 = true then (none) else (if t185.toList = ([] : List UInt8) then ((portagelaw0_Num.f t186).bind fun t202 => (if t202 = 500 then ((match_May.f k1 x11_1).bind fun t203 => (if t203 = true then (none) else ((portagelaw0_Num.f t194).bind fun t204 => (if t204 = 500 then (if (t199.size : Int) = 7483 then ((portagelaw0_Num.f t200).bind fun t205 => (some (t205 == 0))) else (none)) else (none))))) else (none))) else (none))) = some r := H
                  have A29 := Aside0.mk A290
                  clear A290
                  by_cases c30 : t201 = true
                  · subst c30
                    have H1 : (none) = some r := by rw [if_pos rfl] at H; exact H
                    clear H
                    have H := H1
                    clear H1
                    exact absurd H (by simp)
                  · replace c30 := Bool.eq_false_iff.mpr c30
                    subst c30
                    have H1 : (if t185.toList = ([] : List UInt8) then ((portagelaw0_Num.f t186).bind fun t202 => (if t202 = 500 then ((match_May.f k1 x11_1).bind fun t203 => (if t203 = true then (none) else ((portagelaw0_Num.f t194).bind fun t204 => (if t204 = 500 then (if (t199.size : Int) = 7483 then ((portagelaw0_Num.f t200).bind fun t205 => (some (t205 == 0))) else (none)) else (none))))) else (none))) else (none)) = some r := by rw [if_neg (show ¬ (false = true) by decide)] at H; exact H
                    clear H
                    have H := H1
                    clear H1
                    by_cases c31 : t185.toList = ([] : List UInt8)
                    · rw [if_pos c31] at H
                      have c31b0 : (t185.toList == ([] : List UInt8)) = true := beq_iff_eq.mpr c31
                      have c31b1 : (t185.toList != ([] : List UInt8)) = false := bne_eq_false_iff_eq.mpr c31
                      clear c31
                      replace H := Option.bind_eq_some_iff.mp H
                      obtain ⟨t202, A320, H⟩ := H
                      replace H : (if t202 = 500 then ((match_May.f k1 x11_1).bind fun t203 => (if t203 = true then (none) else ((portagelaw0_Num.f t194).bind fun t204 => (if t204 = 500 then (if (t199.size : Int) = 7483 then ((portagelaw0_Num.f t200).bind fun t205 => (some (t205 == 0))) else (none)) else (none))))) else (none)) = some r := H
                      have A32 := Aside0.mk A320
                      clear A320
                      by_cases c33 : t202 = 500
                      · rw [if_pos c33] at H
                        have c33b0 : (t202 == 500) = true := beq_iff_eq.mpr c33
                        have c33b1 : (t202 != 500) = false := bne_eq_false_iff_eq.mpr c33
                        clear c33
                        replace H := Option.bind_eq_some_iff.mp H
                        obtain ⟨t203, A340, H⟩ := H
                        replace H : (if t203 = true then (none) else ((portagelaw0_Num.f t194).bind fun t204 => (if t204 = 500 then (if (t199.size : Int) = 7483 then ((portagelaw0_Num.f t200).bind fun t205 => (some (t205 == 0))) else (none)) else (none)))) = some r := H
                        have A34 := Aside0.mk A340
                        clear A340
                        by_cases c35 : t203 = true
                        · subst c35
                          have H1 : (none) = some r := by rw [if_pos rfl] at H; exact H
                          clear H
                          have H := H1
                          clear H1
                          exact absurd H (by simp)
                        · replace c35 := Bool.eq_false_iff.mpr c35
                          subst c35
                          have H1 : ((portagelaw0_Num.f t194).bind fun t204 => (if t204 = 500 then (if (t199.size : Int) = 7483 then ((portagelaw0_Num.f t200).bind fun t205 => (some (t205 == 0))) else (none)) else (none))) = some r := by rw [if_neg (show ¬ (false = true) by decide)] at H; exact H
                          clear H
                          have H := H1
                          clear H1
                          replace H := Option.bind_eq_some_iff.mp H
                          obtain ⟨t204, A360, H⟩ := H
                          replace H : (if t204 = 500 then (if (t199.size : Int) = 7483 then ((portagelaw0_Num.f t200).bind fun t205 => (some (t205 == 0))) else (none)) else (none)) = some r := H
                          have A36 := Aside0.mk A360
                          clear A360
                          by_cases c37 : t204 = 500
                          · rw [if_pos c37] at H
                            have c37b0 : (t204 == 500) = true := beq_iff_eq.mpr c37
                            have c37b1 : (t204 != 500) = false := bne_eq_false_iff_eq.mpr c37
                            clear c37
                            by_cases c38 : (t199.size : Int) = 7483
                            · rw [if_pos c38] at H
                              have c38b0 : ((t199.size : Int) == 7483) = true := beq_iff_eq.mpr c38
                              have c38b1 : ((t199.size : Int) != 7483) = false := bne_eq_false_iff_eq.mpr c38
                              clear c38
                              replace H := Option.bind_eq_some_iff.mp H
                              obtain ⟨t205, A390, H⟩ := H
                              replace H : (some (t205 == 0)) = some r := H
                              have A39 := Aside0.mk A390
                              clear A390
                              obtain rfl := Option.some.inj H
                              obtain ⟨Ao40, co40, eo40⟩ := Kd.R_slice HO_11.out
                              subst eo40
                              go_wp2_with (first | ((with_reducible refine gate_callee (f := 52) rfl ?_); refine goesL_ (some 76) rfl rfl Try.func52 (by kernel_rfl) rfl #[.slice Ao40 x11_1.length co40] rfl (by (try simp only [List.map_toArray, List.map_cons, List.map_nil]); first | done | rfl | (simp only [List.length_drop, List.length_take]; rfl)) ?_; (with_reducible refine (match_Expand.calls k1 _ _ x11_1 t193 t194 _ ?side1 ?side2 A26.out).mono ?_); (case side1 => repeat (first | exact (Kd.R_reads' HO_11.out).2.2 | (with_reducible refine Kd.C_alloc ?_ _) | (with_reducible refine Kd.C_drewN ?_ _) | (with_reducible refine Kd.C_drew ?_))); (case side2 => exact (Kd.R_reads' HO_11.out).2.1); rintro e w41 ⟨rfl, hb⟩; refine ⟨_, rfl, ?_⟩; have n0_ := Aside0.mk (Kd.R_below (by (with_reducible repeat (first | apply Kd.R_alloc | apply Kd.R_drewN | apply Kd.R_drew)); exact HO_8.out) hb); have n1_ := Aside0.mk (Kd.R_below (by (with_reducible repeat (first | apply Kd.R_alloc | apply Kd.R_drewN | apply Kd.R_drew)); exact HO_11.out) hb); have n2_ := Aside0.mk (blk_below (g := gb177) (o := .cells #[.int .i64 65, .int .i64 0, .int .i64 0] 72 (0, 0)) (by (with_reducible repeat (first | refine blk_drewN ?_ _ | refine blk_drew ?_ | refine blk_alloc ?_ _)); exact BK177.out) hb); have n3_ := Aside0.mk (below_step (by repeat (first | (with_reducible first | exact HB.out | apply below_alloc | apply pw_below_drewN | apply below_drew1 | refine below_set ?_ GE177.out) | exact HB.out)) hb); clear HO_8; clear HO_11; clear BK177; clear HB; have HO_8 := n0_; have HO_11 := n1_; have BK177 := n2_; have HB := n3_; clear n0_ n1_ n2_ n3_; (try clear hb); (try clear hb2); (try clear hk); (try clear hi); have q42 : (30 : Int) ≤ ((x11_1.length : Int) : Int) := of_decide_eq_true (by first | (with_reducible assumption) | assumption); obtain ⟨i042, hi042, _, hsz42, _⟩ := info_parts info72; have hroom42 : x11_1.length ≤ co40 := (Kd.R_reads' HO_11.out).2.1; have hC42 : Kd.C k72 _ Ao40 x11_1.length x11_1 := (Kd.R_reads' HO_11.out).2.2; have hcut42 := cut_to (P := Try.prog) 57 72 .i64 Try.underlying57 hi042 Ao40 x11_1.length co40 30 (by omega) q42 hroom42; have hr42 := Kd.C_take (m := 30) hC42 (by omega); have hy42 : y195.length = (30 : Int).toNat := (by rw [Ny195.out, List.length_take]; omega); rw [← Ny195.out] at hr42; rw [← hy42] at hcut42; have HR198 := Aside0.mk hr42; have HC198 := Aside0.mk (show y195.length ≤ co40 from by omega); clear hr42 hC42 hroom42 hi042 hsz42; have KY42 := Aside0.mk hy42; clear hy42; have KL42 := Aside0.mk (show 30 ≤ x11_1.length from by omega); replace q42 := eq_true q42) | ((with_reducible refine gate_callee (f := 52) rfl ?_); refine goesL_ (some 82) rfl rfl Try.func52 (by kernel_rfl) rfl #[.slice Ao40 y195.length co40] rfl (by (try simp only [List.map_toArray, List.map_cons, List.map_nil]); first | done | rfl | (simp only [List.length_drop, List.length_take]; rfl)) ?_; (with_reducible refine (match_Expand.calls k1 _ _ y195 t199 t200 _ ?side1 ?side2 A28.out).mono ?_); (case side1 => repeat (first | exact (by repeat (first | (with_reducible exact HR198.out) | (with_reducible refine Kd.C_alloc ?_ _) | (with_reducible refine Kd.C_drewN ?_ _) | (with_reducible refine Kd.C_drew ?_) | exact HR198.out)) | (with_reducible refine Kd.C_alloc ?_ _) | (with_reducible refine Kd.C_drewN ?_ _) | (with_reducible refine Kd.C_drew ?_))); (case side2 => exact HC198.out); rintro e w43 ⟨rfl, hb⟩; refine ⟨_, rfl, ?_⟩; have n0_ := Aside0.mk (Kd.R_below (by (with_reducible repeat (first | apply Kd.R_alloc | apply Kd.R_drewN | apply Kd.R_drew)); exact HO_8.out) hb); have n1_ := Aside0.mk (Kd.R_below (by (with_reducible repeat (first | apply Kd.R_alloc | apply Kd.R_drewN | apply Kd.R_drew)); exact HO_11.out) hb); have n2_ := Aside0.mk (blk_below (g := gb177) (o := .cells #[.int .i64 65, .int .i64 0, .int .i64 0] 72 (0, 0)) (by (with_reducible repeat (first | refine blk_drewN ?_ _ | refine blk_drew ?_ | refine blk_alloc ?_ _)); exact BK177.out) hb); have n3_ := Aside0.mk (Kd.C_below (by repeat (first | (with_reducible exact HR198.out) | (with_reducible refine Kd.C_alloc ?_ _) | (with_reducible refine Kd.C_drewN ?_ _) | (with_reducible refine Kd.C_drew ?_) | exact HR198.out)) hb); have n4_ := Aside0.mk (below_step (by repeat (first | (with_reducible first | exact HB.out | apply below_alloc | apply pw_below_drewN | apply below_drew1 | refine below_set ?_ GE177.out) | exact HB.out)) hb); clear HO_8; clear HO_11; clear BK177; clear HR198; clear HB; have HO_8 := n0_; have HO_11 := n1_; have BK177 := n2_; have HR198 := n3_; have HB := n4_; clear n0_ n1_ n2_ n3_ n4_; (try clear hb); (try clear hb2); (try clear hk); (try clear hi)) | ((with_reducible refine gate_callee (f := 55) rfl ?_); refine goesL_ (some 86) rfl rfl Try.func55 (by kernel_rfl) rfl #[.slice Ao19 y182.length co19] rfl (by (try simp only [List.map_toArray, List.map_cons, List.map_nil]); first | done | rfl | (simp only [List.length_drop, List.length_take]; rfl)) ?_; (with_reducible refine (match_May.calls k1 _ _ y182 false _ ?side1 ?side2 A29.out).mono ?_); (case side1 => repeat (first | exact (Kd.R_reads' HO_8.out).2.2 | (with_reducible refine Kd.C_alloc ?_ _) | (with_reducible refine Kd.C_drewN ?_ _) | (with_reducible refine Kd.C_drew ?_))); (case side2 => exact (Kd.R_reads' HO_8.out).2.1); rintro e w44 ⟨rfl, hb⟩; refine ⟨_, rfl, ?_⟩; have n0_ := Aside0.mk (Kd.R_below (by (with_reducible repeat (first | apply Kd.R_alloc | apply Kd.R_drewN | apply Kd.R_drew)); exact HO_8.out) hb); have n1_ := Aside0.mk (Kd.R_below (by (with_reducible repeat (first | apply Kd.R_alloc | apply Kd.R_drewN | apply Kd.R_drew)); exact HO_11.out) hb); have n2_ := Aside0.mk (blk_below (g := gb177) (o := .cells #[.int .i64 65, .int .i64 0, .int .i64 0] 72 (0, 0)) (by (with_reducible repeat (first | refine blk_drewN ?_ _ | refine blk_drew ?_ | refine blk_alloc ?_ _)); exact BK177.out) hb); have n3_ := Aside0.mk (Kd.C_below (by repeat (first | (with_reducible exact HR198.out) | (with_reducible refine Kd.C_alloc ?_ _) | (with_reducible refine Kd.C_drewN ?_ _) | (with_reducible refine Kd.C_drew ?_) | exact HR198.out)) hb); have n4_ := Aside0.mk (below_step (by repeat (first | (with_reducible first | exact HB.out | apply below_alloc | apply pw_below_drewN | apply below_drew1 | refine below_set ?_ GE177.out) | exact HB.out)) hb); clear HO_8; clear HO_11; clear BK177; clear HR198; clear HB; have HO_8 := n0_; have HO_11 := n1_; have BK177 := n2_; have HR198 := n3_; have HB := n4_; clear n0_ n1_ n2_ n3_ n4_; (try clear hb); (try clear hb2); (try clear hk); (try clear hi)) | (go_at_call 34; (with_reducible refine (portagelaw0_Num.calls t186 t202 _ A32.out).mono ?_); rintro e w' ⟨rfl, ⟨nd, rfl⟩⟩) | (go_at_call 55; (with_reducible refine (match_May.calls k1 _ _ x11_1 false _ ?side1 ?side2 A34.out).mono ?_); (case side1 => repeat (first | exact (Kd.R_reads' HO_11.out).2.2 | (with_reducible refine Kd.C_alloc ?_ _) | (with_reducible refine Kd.C_drewN ?_ _) | (with_reducible refine Kd.C_drew ?_))); (case side2 => exact (Kd.R_reads' HO_11.out).2.1); rintro e w45 ⟨rfl, hb⟩; have n0_ := Aside0.mk (Kd.R_below (by (with_reducible repeat (first | apply Kd.R_alloc | apply Kd.R_drewN | apply Kd.R_drew)); exact HO_8.out) hb); have n1_ := Aside0.mk (Kd.R_below (by (with_reducible repeat (first | apply Kd.R_alloc | apply Kd.R_drewN | apply Kd.R_drew)); exact HO_11.out) hb); have n2_ := Aside0.mk (blk_below (g := gb177) (o := .cells #[.int .i64 65, .int .i64 0, .int .i64 0] 72 (0, 0)) (by (with_reducible repeat (first | refine blk_drewN ?_ _ | refine blk_drew ?_ | refine blk_alloc ?_ _)); exact BK177.out) hb); have n3_ := Aside0.mk (Kd.C_below (by repeat (first | (with_reducible exact HR198.out) | (with_reducible refine Kd.C_alloc ?_ _) | (with_reducible refine Kd.C_drewN ?_ _) | (with_reducible refine Kd.C_drew ?_) | exact HR198.out)) hb); have n4_ := Aside0.mk (below_step (by repeat (first | (with_reducible first | exact HB.out | apply below_alloc | apply pw_below_drewN | apply below_drew1 | refine below_set ?_ GE177.out) | exact HB.out)) hb); clear HO_8; clear HO_11; clear BK177; clear HR198; clear HB; have HO_8 := n0_; have HO_11 := n1_; have BK177 := n2_; have HR198 := n3_; have HB := n4_; clear n0_ n1_ n2_ n3_ n4_; (try clear hb); (try clear hb2); (try clear hk); (try clear hi)) | (go_at_call 34; (with_reducible refine (portagelaw0_Num.calls t194 t204 _ A36.out).mono ?_); rintro e w' ⟨rfl, ⟨nd, rfl⟩⟩) | (go_at_call 34; (with_reducible refine (portagelaw0_Num.calls t200 t205 _ A39.out).mono ?_); rintro e w' ⟨rfl, ⟨nd, rfl⟩⟩))
                              go_ret
                              exact ⟨by first | rfl | (simp [errW_none, errW_some] <;> rfl) | (simp only [← hji5]; first | rfl | (simp [errW_none, errW_some] <;> rfl)) | (simp [*, errW_none, errW_some] <;> rfl), by repeat (first | (with_reducible first | exact HB.out | apply below_alloc | apply pw_below_drewN | apply below_drew1 | refine below_set ?_ GE177.out) | exact HB.out)⟩
                            · rw [if_neg c38] at H
                              exact absurd H (by simp)
                          · rw [if_neg c37] at H
                            exact absurd H (by simp)
                      · rw [if_neg c33] at H
                        exact absurd H (by simp)
                    · rw [if_neg c31] at H
                      exact absurd H (by simp)
                · rw [if_neg c27] at H
                  exact absurd H (by simp)
        · rw [if_neg c9] at H
          exact absurd H (by simp)
      · rw [if_neg c7] at H
        exact absurd H (by simp)
    · rw [if_neg c6] at H
      exact absurd H (by simp)
  · replace c4 := Bool.eq_false_iff.mpr c4
    subst c4
    have H1 : (none) = some r := by rw [if_neg (show ¬ (false = true) by decide)] at H; exact H
    clear H
    have H := H1
    clear H1
    exact absurd H (by simp)

/-- THE ONE PURE STATEMENT of portagelaw5_MatchForms: yours. -/
def portagelaw5_MatchForms.Pure : Prop := ∀ (a0 : Int) (a1 : Int), (Lit.int .i64 a0).wf = true → (Lit.int .i64 a1).wf = true → ∃ k, portagelaw5_MatchForms.f k a0 a1 = some true
theorem portagelaw5_MatchForms.walk (P : portagelaw5_MatchForms.Pure) (a0 : Int) (a1 : Int) (w : World) (w0 : (Lit.int .i64 a0).wf = true) (w1 : (Lit.int .i64 a1).wf = true) :
    Calls Try.prog 15 #[.int .i64 a0, .int .i64 a1] w fun e w' => e = .returned (.bool true) ∧ Below w.heap.size w w' := by
  obtain ⟨k, h⟩ := P a0 a1 w0 w1
  refine (portagelaw5_MatchForms.calls k a0 a1 true w h).mono ?_
  rintro e w' ⟨rfl, hd⟩
  exact ⟨rfl, hd⟩

end Go.Proofs.Ytnjbbfcknijcnaa.M
