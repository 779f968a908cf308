-- Written by a program of this session out of the translation (a changed copy of the kit's printer).
import Derived.Test.YtbifignggnfodaaHF0
import Derived.Test.YtbifignggnfodaaHF2
import Derived.Test.YtbifignggnfodaaHuffA
namespace Go.Proofs.Ytbifignggnfodaa.HF
open Go.RowKit Go.Proofs.YtbifignggnfodaaW.PrintWords Go.Proofs.YtbifignggnfodaaW.PrintLast Go.Proofs.YtbifignggnfodaaW.PrintMore
attribute [local go_sem] max2_int min2_int max_two min_two max_three min_three max_four min_four   -- for this text's walks alone
set_option linter.unusedVariables false
set_option linter.unusedSimpArgs false

/-! ### huff_book: function 69 -/
-- IMPORT Derived.Test.YtbifignggnfodaaHuffA
/-- May lengths be? -/
def huffMay (l : List Int) : Bool := decide (1 ≤ l.length ∧ l.length ≤ 288) && l.all fun x => decide (0 ≤ x ∧ x ≤ 15)
theorem huffMay_out {l : List Int} (h : huffMay l = true) : l.length ≤ 288 ∧ ∀ x ∈ l, 0 ≤ x ∧ x ≤ 15 := by
  unfold huffMay at h
  rw [Bool.and_eq_true] at h
  have h1 := of_decide_eq_true h.1
  exact ⟨h1.2, fun x hx => of_decide_eq_true (List.all_eq_true.1 h.2 x hx)⟩
theorem huffMay_one {l : List Int} (h : huffMay l = true) : 1 ≤ l.length := by
  unfold huffMay at h
  rw [Bool.and_eq_true] at h
  exact (of_decide_eq_true h.1).1
theorem huffIdx (l : List Int) (hl : l.length ≤ 288) : ∀ (d i K : Nat), i + d = l.length → d + 1 ≤ K → ((slices_IndexFunc_int_int_F89.l0 K l (l.length : Int) (i : Int)).bind fun t => some (decide (t ≥ 0))) = some ((l.drop i).any fun x => !decide (0 ≤ x ∧ x ≤ 15))
  | 0, i, K, hi, hK => by
    obtain ⟨m, rfl⟩ : ∃ m, K = m + 1 := ⟨K - 1, by omega⟩
    rw [slices_IndexFunc_int_int_F89.l0, if_neg (by omega), List.drop_of_length_le (by omega)]
    rfl
  | d + 1, i, K, hi, hK => by
    obtain ⟨m, rfl⟩ : ∃ m, K = m + 1 := ⟨K - 1, by omega⟩
    have hlt : i < l.length := by omega
    have hd : l.drop i = rd l (i : Int) :: l.drop (i + 1) := by
      rw [List.drop_eq_getElem_cons hlt]
      unfold rd
      rw [Int.toNat_natCast, List.getD_eq_getElem?_getD, List.getElem?_eq_getElem hlt]
      rfl
    have ih := huffIdx l hl d (i + 1) m (by omega) (by omega)
    have hw : wrap64 ((i : Int) + 1) = ((i + 1 : Nat) : Int) := by unfold wrap64; omega
    rw [slices_IndexFunc_int_int_F89.l0, if_pos (by omega), if_pos (by omega), if_pos (by omega), hw, hd]
    by_cases h1 : rd l (i : Int) < 0
    · rw [huff_may_1.f, if_pos h1]
      have : decide (0 ≤ rd l (i : Int) ∧ rd l (i : Int) ≤ 15) = false := decide_eq_false (by omega)
      rw [List.any_cons, this]
      show some (decide ((i : Int) ≥ 0)) = some (true || _)
      rw [decide_eq_true (by omega)]
      rfl
    · rw [huff_may_1.f, if_neg h1]
      by_cases h2 : rd l (i : Int) > 15
      · have : decide (0 ≤ rd l (i : Int) ∧ rd l (i : Int) ≤ 15) = false := decide_eq_false (by omega)
        rw [List.any_cons, this, decide_eq_true h2]
        show some (decide ((i : Int) ≥ 0)) = some (true || _)
        rw [decide_eq_true (by omega)]
        rfl
      · have : decide (0 ≤ rd l (i : Int) ∧ rd l (i : Int) ≤ 15) = true := decide_eq_true (by omega)
        rw [List.any_cons, this, decide_eq_false h2]
        exact ih
theorem huffMay_at (l : List Int) : huff_may.f 300 l = some (huffMay l) := by
  unfold huff_may.f huffMay
  by_cases h1 : (l.length : Int) ≥ 1
  · rw [if_pos h1]
    by_cases h2 : (l.length : Int) ≤ 288
    · rw [if_pos h2, decide_eq_true (by omega)]
      have := huffIdx l (by omega) l.length 0 300 (by omega) (by omega)
      have h3 : slices_ContainsFunc_int_int_F89.f 300 l = some (l.any fun x => !decide (0 ≤ x ∧ x ≤ 15)) := this
      rw [h3, Option.bind_some, Bool.true_and, List.all_eq_not_any_not]
    · rw [if_neg h2, decide_eq_false (by omega)]; rfl
  · rw [if_neg h1, decide_eq_false (by omega)]; rfl
/-- What book comes to where there is one. -/
def BookYes (w : World) (l : List Int) (e : Ending) (w' : World) : Prop := ∃ (vs : Nat → Value) (g : Nat), e = .returned (.tuple #[.pointer (some ⟨g, 0, none⟩), .int .i64 0]) ∧ w.heap.size ≤ g ∧ w'.heap[g]? = some (.cells (HuffA.bk (HuffM.cd l) (HuffM.cnt l) vs (HuffM.lft l 15)) 98 (0, 0)) ∧ HuffA.Rows w' w.heap.size vs l ∧ Below w.heap.size w w'
section
variable (A0 : Option Addr) (c0 : Nat) (l : List Int) (w : World)
set_option maxHeartbeats 8000000 in
set_option maxRecDepth 100000 in
theorem huff_book_form (hr0 : Kd.C (Kd.int .i64) w A0 l.length l) (hc0 : l.length ≤ c0) (h1 : huffMay l = false) :
    Calls Try.prog 69 #[.slice A0 l.length c0] w fun e w' => e = .returned (.tuple #[.pointer none, .int .i64 300]) ∧ Below w.heap.size w w' := by
  have HM := Aside0.mk (huffMay_at l)
  rw [h1] at HM
  have HR0 := Aside0.mk hr0
  have HC0 := Aside0.mk hc0
  clear hr0 hc0 h1
  go_enter Try.func69, Try.ntmps69
  go_wp2_with (go_at_call 71; (with_reducible refine (huff_may.calls 300 A0 c0 l false _ HR0.out HC0.out HM.out).mono ?_); rintro e w' ⟨rfl, ⟨nd, rfl⟩⟩)
  go_ret2
  exact ⟨rfl, pw_below_drewN (Below.refl _ _) _⟩
set_option maxHeartbeats 8000000 in
set_option maxRecDepth 100000 in
theorem huff_book_over (hr0 : Kd.C (Kd.int .i64) w A0 l.length l) (hc0 : l.length ≤ c0) (h1 : huffMay l = true) (h2 : HuffM.lft l 15 < 0) :
    Calls Try.prog 69 #[.slice A0 l.length c0] w fun e w' => e = .returned (.tuple #[.pointer none, .int .i64 301]) ∧ Below w.heap.size w w' := by
  have HM := Aside0.mk (huffMay_at l)
  rw [h1] at HM
  have HO := Aside0.mk (huffMay_out h1)
  have HR0 := Aside0.mk hr0
  have HC0 := Aside0.mk hc0
  clear hr0 hc0 h1
  go_enter Try.func69, Try.ntmps69
  go_wp2_with (first | (go_at_call 71; (with_reducible refine (huff_may.calls 300 A0 c0 l true _ HR0.out HC0.out HM.out).mono ?_); rintro e w' ⟨rfl, ⟨nd, rfl⟩⟩) | (go_at_call 72; (with_reducible refine (HuffA.make_any A0 c0 l _ (Kd.C_drewN HR0.out _) HC0.out HO.out.1 HO.out.2).mono ?_); rintro e w' ⟨vs, rfl, hbk, hrw, hb⟩; have HB := Aside0.mk hb; have hc4 : w'.cell? ⟨w.heap.size, 48, none⟩ = some (.int .i64 (HuffM.lft l 15)) := (blk_cell hbk 48).trans HuffA.bk_x; clear hbk hrw hb))
  go_ret2
  exact ⟨rfl, below_then (pw_below_drewN (Below.refl _ _) nd) (Nat.le_refl _) HB.out⟩
set_option maxHeartbeats 8000000 in
set_option maxRecDepth 100000 in
theorem huff_book_yes (hr0 : Kd.C (Kd.int .i64) w A0 l.length l) (hc0 : l.length ≤ c0) (h1 : huffMay l = true) (h2 : ¬ HuffM.lft l 15 < 0) :
    Calls Try.prog 69 #[.slice A0 l.length c0] w (BookYes w l) := by
  have HM := Aside0.mk (huffMay_at l)
  rw [h1] at HM
  have HO := Aside0.mk (huffMay_out h1)
  have HR0 := Aside0.mk hr0
  have HC0 := Aside0.mk hc0
  clear hr0 hc0 h1
  go_enter Try.func69, Try.ntmps69
  go_wp2_with (first | (go_at_call 71; (with_reducible refine (huff_may.calls 300 A0 c0 l true _ HR0.out HC0.out HM.out).mono ?_); rintro e w' ⟨rfl, ⟨nd, rfl⟩⟩) | (go_at_call 72; (with_reducible refine (HuffA.make_any A0 c0 l _ (Kd.C_drewN HR0.out _) HC0.out HO.out.1 HO.out.2).mono ?_); rintro e w' ⟨vs, rfl, hbk, hrw, hb⟩; have HB := Aside0.mk hb; have HRW := Aside0.mk hrw; have HBK := Aside0.mk hbk; have hc4 : w'.cell? ⟨w.heap.size, 48, none⟩ = some (.int .i64 (HuffM.lft l 15)) := (blk_cell hbk 48).trans HuffA.bk_x; clear hbk hrw hb))
  go_ret2
  exact ⟨vs, w.heap.size, rfl, Nat.le_refl _, HBK.out, HRW.out, below_then (pw_below_drewN (Below.refl _ _) nd) (Nat.le_refl _) HB.out⟩
end
/-- A symbol's code. -/
def huffCode (l : List Int) (i : Nat) : S43 := if 0 < rd l (i : Int) then ⟨rd l (i : Int), HuffM.cd l (rd l (i : Int)).toNat + HuffM.cnt (l.take i) (rd l (i : Int)).toNat⟩ else ⟨0, 0⟩
def huffCodes (l : List Int) : List S43 := (List.range l.length).map (huffCode l)
/-- The codes told so far: of lengths below n, and of n the first j ones. -/
def huffPart (l : List Int) (n j : Nat) (i : Nat) : S43 := if 0 < rd l (i : Int) ∧ (rd l (i : Int) < (n : Int) ∨ (rd l (i : Int) = (n : Int) ∧ HuffM.cnt (l.take i) n < (j : Int))) then huffCode l i else ⟨0, 0⟩
def huffParts (l : List Int) (n j : Nat) : List S43 := (List.range l.length).map (huffPart l n j)
theorem huffParts_zero (l : List Int) : huffParts l 0 0 = List.replicate l.length ⟨0, 0⟩ := by
  apply List.ext_getElem?
  intro i
  unfold huffParts
  rw [List.getElem?_map, List.getElem?_replicate]
  by_cases h : i < l.length
  · rw [List.getElem?_range h, if_pos h]
    simp only [Option.map_some]
    unfold huffPart
    rw [if_neg (by omega)]
  · rw [List.getElem?_eq_none (by simpa using h), if_neg h]
    rfl
theorem huffCnt_lt (l : List Int) (i n : Nat) (hi : i < l.length) (h : rd l (i : Int) = (n : Int)) (h0 : n ≠ 0) : HuffM.cnt (l.take i) n < HuffM.cnt l n := by
  have ht : l.take (i + 1) = l.take i ++ [(n : Int)] := by
    rw [List.take_succ_eq_append_getElem hi, ← h]
    unfold rd
    rw [Int.toNat_natCast, List.getD_eq_getElem?_getD, List.getElem?_eq_getElem hi]
    rfl
  have h1 : HuffM.cnt (l.take (i + 1)) n = HuffM.cnt (l.take i) n + 1 := by rw [ht]; exact HuffM.cnt_snoc_eq _ _ h0
  have h2 : HuffM.cnt (l.take (i + 1)) n ≤ HuffM.cnt l n := by
    unfold HuffM.cnt
    rw [if_neg h0, if_neg h0]
    have := ((List.take_prefix (i + 1) l).filter fun x => x == (n : Int)).length_le
    omega
  omega
theorem huffParts_next (l : List Int) (n j : Nat) (h : (j : Int) = HuffM.cnt l n) : huffParts l n j = huffParts l (n + 1) 0 := by
  unfold huffParts
  refine List.map_congr_left fun i hi => ?_
  have hi' : i < l.length := by simpa using hi
  unfold huffPart
  have : (0 < rd l (i : Int) ∧ (rd l (i : Int) < (n : Int) ∨ (rd l (i : Int) = (n : Int) ∧ HuffM.cnt (l.take i) n < (j : Int)))) ↔ (0 < rd l (i : Int) ∧ (rd l (i : Int) < ((n + 1 : Nat) : Int) ∨ (rd l (i : Int) = ((n + 1 : Nat) : Int) ∧ HuffM.cnt (l.take i) (n + 1) < ((0 : Nat) : Int)))) := by
    constructor
    · rintro ⟨h1, h2⟩
      exact ⟨h1, .inl (by omega)⟩
    · rintro ⟨h1, h2 | ⟨h2, h3⟩⟩
      · refine ⟨h1, ?_⟩
        by_cases e : rd l (i : Int) = (n : Int)
        · exact .inr ⟨e, by rw [h]; exact huffCnt_lt l i n hi' e (by omega)⟩
        · exact .inl (by omega)
      · have := (HuffM.cnt_bd (l.take i) (n + 1)).1
        omega
  simp only [this]
theorem huffParts_all (l : List Int) (h : ∀ x ∈ l, 0 ≤ x ∧ x ≤ 15) : huffParts l 16 0 = huffCodes l := by
  unfold huffParts huffCodes
  refine List.map_congr_left fun i hi => ?_
  have hi' : i < l.length := by simpa using hi
  have hb := h _ (HuffA.rd_mem l i hi')
  unfold huffPart
  by_cases h0 : 0 < rd l (i : Int)
  · rw [if_pos ⟨h0, .inl (by omega)⟩]
  · rw [if_neg (by omega)]
    unfold huffCode
    rw [if_neg h0]
/-- The j-th symbol of a length. -/
theorem huffPos_len (n : Nat) : ∀ (m : Nat) (l : List Int), l.length = m → ∀ j, j < (HuffM.pos l n).length → ∃ i : Nat, i < l.length ∧ rd (HuffM.pos l n) (j : Int) = (i : Int) ∧ rd l (i : Int) = (n : Int) ∧ HuffM.cnt (l.take i) n = (j : Int) := by
  intro m
  induction m with
  | zero =>
    intro l hl j hj
    rw [List.length_eq_zero_iff.1 hl, HuffM.pos_nil] at hj
    exact absurd hj (by simp)
  | succ m ihm =>
    intro l' hl'
    obtain ⟨l, x, rfl⟩ : ∃ l x, l' = l ++ [x] := by
      rcases List.eq_nil_or_concat l' with h | ⟨l, x, h⟩
      · subst h; exact absurd hl' (by simp)
      · exact ⟨l, x, by simpa using h⟩
    have ih := ihm l (by simpa using hl')
    intro j hj
    by_cases h0 : n = 0
    · subst h0
      exact absurd hj (by simp [HuffM.pos])
    have old : j < (HuffM.pos l n).length → HuffM.pos (l ++ [x]) n = HuffM.pos l n ∨ HuffM.pos (l ++ [x]) n = HuffM.pos l n ++ [(l.length : Int)] → ∃ i : Nat, i < (l ++ [x]).length ∧ rd (HuffM.pos (l ++ [x]) n) (j : Int) = (i : Int) ∧ rd (l ++ [x]) (i : Int) = (n : Int) ∧ HuffM.cnt ((l ++ [x]).take i) n = (j : Int) := by
      intro hlt he
      obtain ⟨i, hi, h1, h2, h3⟩ := ih j hlt
      refine ⟨i, by rw [List.length_append]; omega, ?_, ?_, ?_⟩
      · rw [← h1]
        rcases he with he | he
        · rw [he]
        · rw [he]
          unfold rd
          rw [Int.toNat_natCast, List.getD_eq_getElem?_getD, List.getD_eq_getElem?_getD, List.getElem?_append_left hlt]
      · rw [← h2]
        unfold rd
        rw [Int.toNat_natCast, List.getD_eq_getElem?_getD, List.getD_eq_getElem?_getD, List.getElem?_append_left hi]
      · rw [List.take_append_of_le_length (by omega)]
        exact h3
    by_cases hx : x = (n : Int)
    · subst hx
      have he := HuffM.pos_snoc_eq l n h0
      by_cases hlt : j < (HuffM.pos l n).length
      · exact old hlt (.inr he)
      · have hj' : j = (HuffM.pos l n).length := by rw [he, List.length_append, List.length_singleton] at hj; omega
        have hc := HuffM.pos_length l n
        refine ⟨l.length, by simp, ?_, ?_, ?_⟩
        · rw [he, hj']
          unfold rd
          rw [Int.toNat_natCast, List.getD_eq_getElem?_getD, List.getElem?_append_right (Nat.le_refl _), Nat.sub_self]
          rfl
        · unfold rd
          rw [Int.toNat_natCast, List.getD_eq_getElem?_getD, List.getElem?_append_right (Nat.le_refl _), Nat.sub_self]
          rfl
        · rw [List.take_left, hj']
          omega
    · have he := HuffM.pos_snoc_ne l x n hx
      exact old (by rw [he] at hj; exact hj) (.inl he)
theorem huffPos_at (l : List Int) (n j : Nat) (hj : j < (HuffM.pos l n).length) : ∃ i : Nat, i < l.length ∧ rd (HuffM.pos l n) (j : Int) = (i : Int) ∧ rd l (i : Int) = (n : Int) ∧ HuffM.cnt (l.take i) n = (j : Int) := huffPos_len n l.length l rfl j hj
/-- The next one is told. -/
theorem huffParts_put (l : List Int) (n j i : Nat) (hi : i < l.length) (hn : rd l (i : Int) = (n : Int)) (h0 : n ≠ 0) (hc : HuffM.cnt (l.take i) n = (j : Int)) : (huffParts l n j).set i ⟨(n : Int), HuffM.cd l n + (j : Int)⟩ = huffParts l n (j + 1) := by
  apply List.ext_getElem?
  intro q
  unfold huffParts
  rw [List.getElem?_set]
  have hlen : ((List.range l.length).map (huffPart l n j)).length = l.length := by simp
  by_cases hq : q < l.length
  · rw [List.getElem?_map, List.getElem?_map, List.getElem?_range hq]
    simp only [Option.map_some]
    by_cases e : i = q
    · subst e
      rw [if_pos rfl, if_pos (by rw [hlen]; exact hi)]
      congr 1
      unfold huffPart
      rw [if_pos ⟨by omega, .inr ⟨hn, by omega⟩⟩]
      unfold huffCode
      rw [if_pos (by omega), hn, Int.toNat_natCast, hc]
    · rw [if_neg e]
      congr 1
      unfold huffPart
      have : (rd l (q : Int) = (n : Int) ∧ HuffM.cnt (l.take q) n < (j : Int)) ↔ (rd l (q : Int) = (n : Int) ∧ HuffM.cnt (l.take q) n < ((j + 1 : Nat) : Int)) := by
        constructor
        · rintro ⟨h1, h2⟩; exact ⟨h1, by omega⟩
        · rintro ⟨h1, h2⟩
          refine ⟨h1, ?_⟩
          have h3 : HuffM.cnt (l.take q) n ≠ (j : Int) := by
            intro h3
            rcases Nat.lt_or_ge i q with hl | hl
            · have := huffCnt_lt (l.take q) i n (by rw [List.length_take]; omega) (by
                rw [← hn]; unfold rd
                rw [Int.toNat_natCast, List.getD_eq_getElem?_getD, List.getD_eq_getElem?_getD, List.getElem?_take, if_pos hl]) h0
              rw [List.take_take, Nat.min_eq_left (by omega)] at this
              omega
            · have := huffCnt_lt (l.take i) q n (by rw [List.length_take]; omega) (by
                rw [← h1]; unfold rd
                rw [Int.toNat_natCast, List.getD_eq_getElem?_getD, List.getD_eq_getElem?_getD, List.getElem?_take, if_pos (by omega)]) h0
              rw [List.take_take, Nat.min_eq_left (by omega)] at this
              omega
          omega
      simp only [this]
  · have hq' : l.length ≤ q := by omega
    rw [if_neg (by omega), List.getElem?_eq_none (by simpa using hq'), List.getElem?_eq_none (by simpa using hq')]
theorem own_setc {W : World} {base e size n cap g : Nat} {xs : List Value} (h : W.ownsRow base e size (.slice (some ⟨g, 0, none⟩) n cap) n xs) (j : Nat) (u : Value) : (W.setCell ⟨g, j, none⟩ u).ownsRow base e size (.slice (some ⟨g, 0, none⟩) n cap) n (xs.set j u) := by
  obtain ⟨h1, h2⟩ := h
  refine ⟨by rw [List.length_set]; exact h1, ?_⟩
  rcases h2 with ⟨he, _⟩ | ⟨g', cap', cur, he, hb, hh, hnc, hcm, hcs, ht⟩
  · cases he
  · injection he with ha _ hc
    injection ha with ha
    injection ha with ha
    subst ha; subst hc
    refine .inr ⟨g, cap, cur.setIfInBounds j u, rfl, hb, blk_set hh j u, hnc, hcm, by simpa using hcs, ?_⟩
    rw [Array.toList_setIfInBounds, List.take_set, ht]
theorem set_two (xs : List Value) (i : Nat) (a b : Value) (h : i * 2 + 2 ≤ xs.length) : (xs.set (i * 2) a).set (i * 2 + 1) b = xs.take (i * 2) ++ [a, b] ++ xs.drop (i * 2 + [a, b].length) := by
  apply List.ext_getElem?
  intro q
  rw [List.getElem?_set, List.getElem?_set, List.length_set]
  have hl : (xs.take (i * 2)).length = i * 2 := by rw [List.length_take]; omega
  by_cases e1 : i * 2 + 1 = q
  · subst e1
    rw [if_pos rfl, if_pos (by omega), List.append_assoc, List.getElem?_append_right (by omega), hl, Nat.add_sub_cancel_left]
    rfl
  · rw [if_neg e1]
    by_cases e2 : i * 2 = q
    · subst e2
      rw [if_pos rfl, if_pos (by omega), List.append_assoc, List.getElem?_append_right (by omega), hl, Nat.sub_self]
      rfl
    · rw [if_neg e2]
      rcases Nat.lt_or_ge q (i * 2) with hq | hq
      · rw [List.append_assoc, List.getElem?_append_left (by omega), List.getElem?_take, if_pos hq]
      · have hl2 : (xs.take (i * 2) ++ [a, b]).length = i * 2 + 2 := by simp [hl]
        rw [List.getElem?_append_right (by omega), hl2, List.getElem?_drop]
        show xs[q]? = xs[i * 2 + 2 + (q - (i * 2 + 2))]?
        congr 1
        omega
theorem R_set2 {W : World} {base n cap g : Nat} {ok : Nat → Prop} {xs : List S43} (h : Kd.R k43 43 W base ok (.slice (some ⟨g, 0, none⟩) n cap) xs) (i : Nat) (hi : i < xs.length) (a b : Int) :
    Kd.R k43 43 ((W.setCell ⟨g, i * 2, none⟩ (.int .i64 a)).setCell ⟨g, i * 2 + 1, none⟩ (.int .i64 b)) base ok (.slice (some ⟨g, 0, none⟩) n cap) (xs.set i ⟨a, b⟩) := by
  obtain ⟨h0, inner, ho, hr⟩ := h
  have hn : n = xs.length := by
    rcases ho.2 with ⟨he, _⟩ | ⟨_, _, _, he, _⟩
    · cases he
    · injection he
  subst hn
  refine ⟨h0, (inner.set (i * 2) (.int .i64 a)).set (i * 2 + 1) (.int .i64 b), by rw [List.length_set]; exact own_setc (own_setc ho _ _) _ _, ?_⟩
  rw [set_two _ _ _ _ (by have := hr.1; have e : (k43).sz = 2 := rfl; rw [e] at this; omega)]
  refine Kd.reps_set (hr.imp_ fun p c hp => ?_) hi (k43_mkM _ _ _ ⟨a, b⟩) rfl
  have := k43_openM hp
  rw [this]
  exact k43_mkM _ _ _ p
def rowsL (vs : Nat → Value) : List Value := (List.range 16).map vs
theorem rows_at {W : World} {g t : Nat} {f c : Nat → Int} {vs : Nat → Value} {x : Int} (h : W.heap[g]? = some (.cells (HuffA.bk f c vs x) t (0, 0))) : W.rangeAt g 32 (rowsL vs) := fun j v hv => by
  unfold rowsL at hv
  rw [List.getElem?_map] at hv
  rcases Nat.lt_or_ge j 16 with hj | hj
  · rw [List.getElem?_range hj] at hv
    have : vs j = v := by simpa using hv
    rw [← this]
    exact (blk_cell h (32 + j)).trans (HuffA.bk_v hj)
  · rw [List.getElem?_eq_none (by simpa using hj)] at hv
    cases hv
/-- A row of a book, read. -/
theorem row_form {W : World} {base : Nat} {vs : Nat → Value} {l : List Int} (h : HuffA.Rows W base vs l) (n : Nat) (hn : n < 16) : ∃ A c, vs n = .slice A (HuffM.pos l n).length c ∧ (HuffM.pos l n).length ≤ c ∧ ReadsOf (Value.int .i64) 0 W A (HuffM.pos l n).length (HuffM.pos l n) := by
  obtain ⟨A, c, he, hr⟩ := own_reads_of (enc := Value.int .i64) (d := (0 : Int)) (h.own n hn)
  refine ⟨A, c, he, ?_, hr⟩
  rcases (h.own n hn).2 with ⟨h1, h2⟩ | ⟨g, cap, cur, h1, h2, h3, h4, _⟩
  · omega
  · rw [he] at h1
    injection h1 with _ _ h1
    omega
theorem row_read {W : World} {base : Nat} {vs : Nat → Value} {l : List Int} (h : HuffA.Rows W base vs l) (n : Nat) (hn : n < 16) {A : Option Addr} {c : Nat} (hv : vs n = .slice A (HuffM.pos l n).length c) : ReadsOf (Value.int .i64) 0 W A (HuffM.pos l n).length (HuffM.pos l n) := by
  obtain ⟨A', c', he, _, hr⟩ := row_form h n hn
  rw [hv] at he
  injection he with he _ _
  subst he
  exact hr
section
variable (A0 : Option Addr) (c0 : Nat) (l : List Int) (w : World)
set_option maxHeartbeats 8000000 in
set_option maxRecDepth 100000 in
theorem huff_Codes_yes (hr0 : Kd.C (Kd.int .i64) w A0 l.length l) (hc0 : l.length ≤ c0) (h1 : huffMay l = true) (h2 : ¬ HuffM.lft l 15 < 0) :
    Calls Try.prog 24 #[.slice A0 l.length c0] w fun e w' => ∃ v0_ : Value, e = .returned (.tuple #[v0_, .int .i64 0]) ∧ Kd.R k43 43 w' w.heap.size (fun _ => True) v0_ (huffCodes l) ∧ Below w.heap.size w w' := by
  have HO := Aside0.mk (huffMay_out h1)
  have H1 := Aside0.mk h1
  have H2 := Aside0.mk h2
  have HR0 := Aside0.mk hr0
  have HC0 := Aside0.mk hc0
  have hlb := HO.out.1
  clear hr0 hc0 h1 h2
  go_enter Try.func24, Try.ntmps24
  go_wp2_with (first | (go_at_call 69; (with_reducible refine (huff_book_yes A0 c0 l _ HR0.out HC0.out H1.out H2.out).mono ?_); rintro e w1 ⟨vs, g, rfl, hge, hbk, hrw, hb⟩; have HB := Aside0.mk hb; have HRW := Aside0.mk hrw; have HBK := Aside0.mk hbk; have HGE := Aside0.mk hge; clear hbk hrw hb hge) | ((with_reducible refine gate_dst (N := 21) rfl ?_); refine Kd.R_make k43 (w0 := w) w.heap.size 43 ?hg (N := 21) ?hd 24 (.tmp 20) (.tmp 20) rfl (l.length : Int) ?hx ?hy Try.underlying24 (.agg #[.int .i64 0, .int .i64 0]) 16 info43 rfl (by decide) (by decide) ⟨0, 0⟩ (ok := fun _ => True) (okp := fun _ => True) (k43_mkM _ _ _ _) (fun _ _ => trivial) trivial (by omega) (by simp only [Int.toNat_natCast]; omega) HB.out HB.out.size ?_; (case hg => rfl); (case hd => rfl); (case hx => rfl); (case hy => rfl); intro v1 w2 ho hb hg hat; have HO2 := Aside0.mk ho; have HB2 := Aside0.mk hb; have HAT := Aside0.mk hat; have HBK2 : Aside0 (w2.heap[g]? = some (.cells (HuffA.bk (HuffM.cd l) (HuffM.cnt l) vs (HuffM.lft l 15)) 98 (0, 0))) := ⟨HuffA.far_after hg HBK.out (by simp)⟩; have HRW2 : Aside0 (HuffA.Rows w2 w.heap.size vs l) := ⟨HuffA.rows_move HRW.out fun n hn k hk => hg.block k (own_lt (HRW.out.own n hn) k hk) (by simp)⟩; have HGL : Aside0 (g < w1.heap.size) := ⟨blk_lt HBK.out⟩; have HRL : Aside0 (∀ n, n < 16 → ∀ k, (vs n).ownBlock = some k → k < w1.heap.size) := ⟨fun n hn k hk => own_lt (HRW.out.own n hn) k hk⟩; clear HBK HRW HB; clear ho hb hg hat) | ((with_reducible refine gate_dst (N := 25) rfl ?_); refine wpList_load_mid ?hg 96 (.tmp 24) rfl g 32 ?hx (rowsL vs) _ (rows_at HBK2.out) Try.underlying96 rfl (by kernel_rfl) ?_; (case hg => rfl); (case hx => rfl)) | fail)
  have hl1 : 1 ≤ l.length := huffMay_one H1.out
  obtain ⟨ob, cap, hv1, hob1, hob2, _⟩ := Kd.R_form HO2.out (by simp; omega)
  have HOB : Aside0 (ob ≠ g ∧ ∀ n, n < 16 → ∀ k, (vs n).ownBlock = some k → k ≠ ob) := ⟨by
    obtain ⟨b, hb1, hb2⟩ := HAT.out
    rw [hv1] at hb1
    have : ob = b := by simpa [Value.ownBlock] using hb1
    subst this
    exact ⟨fun he => by have := HGL.out; omega, fun n hn k hk => by have := HRL.out n hn k hk; omega⟩⟩
  rw [List.length_replicate, Int.toNat_natCast] at hv1
  subst hv1
  have HO3 : Aside0 (Kd.R k43 43 w2 w.heap.size (fun _ => True) (.slice (some ⟨ob, 0, none⟩) l.length cap) (huffParts l 0 0)) := ⟨by rw [huffParts_zero]; exact HO2.out⟩
  have HOBg := Aside0.mk hob1
  clear HO2 HAT hob1 hob2 hl1
  go_loopw [26] (fun v26 wr => ∃ n : Nat, v26 = .int .i64 (n : Int) ∧ n ≤ 16 ∧ Aside0 (Kd.R k43 43 wr w.heap.size (fun _ => True) (.slice (some ⟨ob, 0, none⟩) l.length cap) (huffParts l n 0)) ∧ Aside0 (wr.heap[g]? = some (.cells (HuffA.bk (HuffM.cd l) (HuffM.cnt l) vs (HuffM.lft l 15)) 98 (0, 0))) ∧ Aside0 (HuffA.Rows wr w.heap.size vs l) ∧ Aside0 (Below w.heap.size w wr)) (fun v26 _ => 16 - (intOf v26).toNat)
  case atStart => exact ⟨0, rfl, by omega, HO3, HBK2, HRW2, HB2⟩
  case round =>
    clear HO3 HBK2 HRW2 HB2
    obtain ⟨n, rfl, hn, HO3, HBK2, HRW2, HB2⟩ := hrel
    by_cases hlt : (n : Int) < 16
    · have hn16 : n < 16 := by omega
      obtain ⟨A, c, hvn, hcc, hrd⟩ := row_form HRW2.out n hn16
      have hix : (rowsL vs)[n]? = some (.slice A (HuffM.pos l n).length c) := by unfold rowsL; rw [List.getElem?_map, List.getElem?_range hn16, Option.map_some, hvn]
      have hiy : (Instr.index 96 (.agg (rowsL vs).toArray) (.int .i64 (n : Int))).run Try.prog wr = .ok (.slice A (HuffM.pos l n).length c) wr := HuffA.run_index_arr 96 22 16 _ .i64 n Try.underlying96 hn16 _ (by simpa using hix) (fun w => by simp [go_sem, Try.sizeOf22]) (fun w => by simp [go_sem, Try.isAgg22])
      have HRD := Aside0.mk hrd
      have HCC := Aside0.mk hcc
      have HVN := Aside0.mk hvn
      clear hrd hcc hvn
      go_wp2_with fail
      have HO3' : Aside0 (Kd.R k43 43 wr w.heap.size (fun _ => True) (.slice (some ⟨ob, 0, none⟩) l.length cap) (huffParts l n 0)) := HO3
      clear HO3 hix hiy
      go_loopw [32] (fun v32 ws => ∃ j : Nat, v32 = .int .i64 (j : Int) ∧ j ≤ (HuffM.pos l n).length ∧ Aside0 (Kd.R k43 43 ws w.heap.size (fun _ => True) (.slice (some ⟨ob, 0, none⟩) l.length cap) (huffParts l n j)) ∧ Aside0 (ws.heap[g]? = some (.cells (HuffA.bk (HuffM.cd l) (HuffM.cnt l) vs (HuffM.lft l 15)) 98 (0, 0))) ∧ Aside0 (HuffA.Rows ws w.heap.size vs l) ∧ Aside0 (Below w.heap.size w ws)) (fun v32 _ => (HuffM.pos l n).length - (intOf v32).toNat)
      case atStart => exact ⟨0, rfl, by omega, HO3', HBK2, HRW2, HB2⟩
      case round =>
        clear HO3' HBK2 HRW2 HB2
        obtain ⟨j, rfl, hj, HO3, HBK2, HRW2, HB2⟩ := hrel
        have hpl := HuffM.pos_length l n
        have hcb := (HuffM.cnt_bd l n).2
        have hp288 : (HuffM.pos l n).length ≤ 288 := by omega
        have HPL := Aside0.mk hpl
        clear hpl hcb
        by_cases hlj : (j : Int) < ((HuffM.pos l n).length : Int)
        · obtain ⟨i, hi, hpi, hri, hci⟩ := huffPos_at l n j (by omega)
          have hn0 : n ≠ 0 := by intro h0; subst h0; rw [show HuffM.pos l 0 = [] from rfl] at hlj; exact absurd hlj (by simp)
          obtain ⟨ad, e0, hx⟩ := (row_read HRW2.out n hn16 HVN.out).at_ (j : Int) (by omega) (by omega)
          cases e0
          have hx' : wr.cell? (ad.add j) = some (.int .i64 (i : Int)) := by rw [← hpi]; rw [Int.toNat_natCast] at hx; exact hx
          clear hx
          have hcd := HuffM.cd_small l HO.out.1 n (by omega)
          obtain ⟨hcd0, hcd1⟩ := hcd
          have hi0 : (0 : Int) ≤ (i : Int) := by omega
          have hi1 : (i : Int) < (l.length : Int) := by omega
          have hpa : (huffParts l n j).length = l.length := by unfold huffParts; simp
          obtain ⟨cc, hcl, hM, hcc, hfz⟩ := Kd.R_elem HO3.out ⟨0, 0⟩ (i : Int) hi0 hi1
          have hcc2 := k43_openM hM
          have e2 : (k43).sz = 2 := rfl
          rw [e2, Int.toNat_natCast] at hcc hfz
          rw [Int.toNat_natCast] at hcc2
          have hs0 : wr.cell? ⟨ob, i * 2, none⟩ = some (.int .i64 ((huffParts l n j).getD i ⟨0, 0⟩).f0) := by exact hcc 0 _ (by rw [hcc2]; rfl)
          have hs1 : wr.cell? ⟨ob, i * 2 + 1, none⟩ = some (.int .i64 ((huffParts l n j).getD i ⟨0, 0⟩).f1) := by exact hcc 1 _ (by rw [hcc2]; rfl)
          have hf0 : wr.frozen? ⟨ob, i * 2, none⟩ = false := by exact hfz 0
          have hf1 : wr.frozen? ⟨ob, i * 2 + 1, none⟩ = false := by exact hfz 1
          have hg0 : wr.cell? ⟨g, n, none⟩ = some (.int .i64 (HuffM.cd l n)) := (blk_cell HBK2.out n).trans (HuffA.bk_f hn16)
          have HRI := Aside0.mk hri
          have HCI := Aside0.mk hci
          have HPA := Aside0.mk hpa
          clear hM hcc hfz hcc2 hcl hpi hri hci hpa
          clear e2
          go_wp2
          go_roundw
          case rel =>
            refine ⟨j + 1, by go_num, by omega, ⟨?_⟩, ⟨?_⟩, ⟨?_⟩, ⟨?_⟩⟩
            · rw [← huffParts_put l n j i hi HRI.out hn0 HCI.out]
              exact R_set2 HO3.out i (by rw [HPA.out]; exact hi) _ _
            · exact blk_far (blk_far HBK2.out (p := ⟨ob, i * 2, none⟩) (Ne.symm HOB.out.1) _) (p := ⟨ob, i * 2 + 1, none⟩) (Ne.symm HOB.out.1) _
            · exact HuffA.rows_move (HuffA.rows_move HRW2.out fun m hm q hq => Below.heap_setCell wr ⟨ob, i * 2, none⟩ _ q (HOB.out.2 m hm q hq)) fun m hm q hq => Below.heap_setCell _ ⟨ob, i * 2 + 1, none⟩ _ q (HOB.out.2 m hm q hq)
            · exact below_set (below_set HB2.out HOBg.out) HOBg.out
          case measure => simp [intOf]; omega
        · have hje : j = (HuffM.pos l n).length := by omega
          go_wp2
          go_roundw
          case rel =>
            refine ⟨n + 1, by go_num, by omega, ⟨?_⟩, HBK2, HRW2, HB2⟩
            rw [← huffParts_next l n j (by rw [hje]; exact HPL.out)]
            exact HO3.out
          case measure => simp [intOf]; omega
    · have hn16 : n = 16 := by omega
      subst hn16
      go_wp2
      go_ret2
      exact ⟨_, rfl, by rw [← huffParts_all l HO.out.2]; exact HO3.out, HB2.out⟩
end
section
variable (g : Nat) (vs : Nat → Value) (l : List Int) (bits value : Int) (base : Nat) (w : World)
set_option maxHeartbeats 8000000 in
set_option maxRecDepth 100000 in
theorem huff_BFind_no (hb : w.heap[g]? = some (.cells (HuffA.bk (HuffM.cd l) (HuffM.cnt l) vs (HuffM.lft l 15)) 98 (0, 0))) (hl : l.length ≤ 288) (h : bits < 1 ∨ bits > 15) :
    Calls Try.prog 70 #[.pointer (some ⟨g, 0, none⟩), .int .i64 bits, .int .i64 value] w fun e w' => e = .returned (.tuple #[.int .i64 0, .bool false]) ∧ Drawn0 w w' := by
  clear hb
  by_cases h1 : bits < 1
  · clear h
    have hb1 : decide (bits < 1) = true := decide_eq_true h1
    go_enter Try.func70, Try.ntmps70
    go_wp2_with fail
    go_quiet ((fail))
    all_goals go_wp2
    go_ret2
    exact ⟨rfl, ⟨⟨_, rfl⟩⟩⟩
  · have h2 : bits > 15 := by omega
    clear h
    have hb1 : decide (bits < 1) = false := decide_eq_false h1
    have hb2 : decide (15 < bits) = true := decide_eq_true h2
    clear h1 h2
    go_enter Try.func70, Try.ntmps70
    go_wp2_with fail
    go_quiet ((fail))
    all_goals go_wp2
    go_ret2
    exact ⟨rfl, ⟨⟨_, rfl⟩⟩⟩
set_option maxHeartbeats 8000000 in
set_option maxRecDepth 100000 in
theorem huff_BFind_out (n : Nat) (hb : w.heap[g]? = some (.cells (HuffA.bk (HuffM.cd l) (HuffM.cnt l) vs (HuffM.lft l 15)) 98 (0, 0))) (hl : l.length ≤ 288) (hn1 : 1 ≤ n) (hn2 : n ≤ 15) (h : value < HuffM.cd l n ∨ wrap64 (value - HuffM.cd l n) ≥ HuffM.cnt l n) :
    Calls Try.prog 70 #[.pointer (some ⟨g, 0, none⟩), .int .i64 (n : Int), .int .i64 value] w fun e w' => e = .returned (.tuple #[.int .i64 0, .bool false]) ∧ Drawn0 w w' := by
  have hb1 : decide ((n : Int) < 1) = false := decide_eq_false (by omega)
  have hb2 : decide ((15 : Int) < (n : Int)) = false := decide_eq_false (by omega)
  have hb3 : (0 : Int) ≤ (n : Int) := by omega
  have hb4 : (n : Int) < 16 := by omega
  have hc1 : w.cell? ⟨g, n, none⟩ = some (.int .i64 (HuffM.cd l n)) := (blk_cell hb n).trans (HuffA.bk_f (by omega))
  have hc2 : w.cell? ⟨g, 16 + n, none⟩ = some (.int .i64 (HuffM.cnt l n)) := (blk_cell hb (16 + n)).trans (HuffA.bk_c (by omega))
  clear hb
  have HN1 := Aside0.mk hn1
  have HN2 := Aside0.mk hn2
  clear hn1 hn2
  by_cases h1 : value < HuffM.cd l n
  · clear h
    have hd1 : decide (value < HuffM.cd l n) = true := decide_eq_true h1
    clear h1
    go_enter Try.func70, Try.ntmps70
    go_wp2_with fail
    go_quiet ((fail))
    all_goals go_wp2
    go_ret2
    exact ⟨rfl, ⟨⟨_, rfl⟩⟩⟩
  · have h2 : wrap64 (value - HuffM.cd l n) ≥ HuffM.cnt l n := by rcases h with h | h; exact absurd h h1; exact h
    clear h
    have hd1 : decide (value < HuffM.cd l n) = false := decide_eq_false h1
    have hd2 : decide (HuffM.cnt l n ≤ IntKind.i64.wrap (value - HuffM.cd l n)) = true := decide_eq_true (by rw [i64_w]; exact h2)
    have hd3 : decide (HuffM.cnt l n ≤ wrap64 (value - HuffM.cd l n)) = true := decide_eq_true h2
    clear h1 h2
    go_enter Try.func70, Try.ntmps70
    go_wp2_with fail
    go_quiet ((fail))
    all_goals go_wp2
    go_ret2
    exact ⟨rfl, ⟨⟨_, rfl⟩⟩⟩
set_option maxHeartbeats 8000000 in
set_option maxRecDepth 100000 in
theorem huff_BFind_yes (n : Nat) (hb : w.heap[g]? = some (.cells (HuffA.bk (HuffM.cd l) (HuffM.cnt l) vs (HuffM.lft l 15)) 98 (0, 0))) (hr : HuffA.Rows w base vs l) (hl : l.length ≤ 288) (hn1 : 1 ≤ n) (hn2 : n ≤ 15) (h1 : ¬ value < HuffM.cd l n) (q : Nat) (hq : wrap64 (value - HuffM.cd l n) = (q : Int)) (h2 : (q : Int) < HuffM.cnt l n) :
    Calls Try.prog 70 #[.pointer (some ⟨g, 0, none⟩), .int .i64 (n : Int), .int .i64 value] w fun e w' => e = .returned (.tuple #[.int .i64 (rd (HuffM.pos l n) (q : Int)), .bool true]) ∧ Drawn0 w w' := by
  have hb1 : decide ((n : Int) < 1) = false := decide_eq_false (by omega)
  have hb2 : decide ((15 : Int) < (n : Int)) = false := decide_eq_false (by omega)
  have hb3 : (0 : Int) ≤ (n : Int) := by omega
  have hb4 : (n : Int) < 16 := by omega
  have hc1 : w.cell? ⟨g, n, none⟩ = some (.int .i64 (HuffM.cd l n)) := (blk_cell hb n).trans (HuffA.bk_f (by omega))
  have hc2 : w.cell? ⟨g, 16 + n, none⟩ = some (.int .i64 (HuffM.cnt l n)) := (blk_cell hb (16 + n)).trans (HuffA.bk_c (by omega))
  obtain ⟨A, c, hvn, hcc, hrd⟩ := row_form hr n (by omega)
  have hc3 : w.cell? ⟨g, 32 + n, none⟩ = some (.slice A (HuffM.pos l n).length c) := (blk_cell hb (32 + n)).trans (by rw [HuffA.bk_v (by omega), hvn])
  have hpl := HuffM.pos_length l n
  have hq1 : (q : Int) < ((HuffM.pos l n).length : Int) := by omega
  obtain ⟨ad, e0, hx⟩ := hrd.at_ (q : Int) (by omega) hq1
  rw [Int.toNat_natCast] at hx
  cases e0
  have hx' : w.cell? (ad.add q) = some (.int .i64 (rd (HuffM.pos l n) (q : Int))) := hx
  have hw : IntKind.i64.wrap (value - HuffM.cd l n) = (q : Int) := by rw [i64_w]; exact hq
  have hd1 : decide (value < HuffM.cd l n) = false := decide_eq_false h1
  have hd2 : decide (HuffM.cnt l n ≤ (q : Int)) = false := decide_eq_false (by omega)
  clear hb hpl hvn hcc hrd hx h1 h2 hq hr hn1 hn2
  go_enter Try.func70, Try.ntmps70
  go_wp2_with fail
  go_quiet ((fail))
  go_wp2_with fail
  go_quiet ((fail))
  all_goals go_wp2
  go_ret2
  exact ⟨rfl, by repeat (first | exact Drawn0.refl _ | apply Drawn0.step)⟩
end
section
variable (A0 : Option Addr) (c0 : Nat) (l : List Int) (w : World)
set_option maxHeartbeats 8000000 in
set_option maxRecDepth 100000 in
theorem huff_Codes_no (hr0 : Kd.C (Kd.int .i64) w A0 l.length l) (hc0 : l.length ≤ c0) (c : Int) (hc : (c == 0) = false) (hne : (c != 0) = true) (hk : ∀ w : World, Kd.C (Kd.int .i64) w A0 l.length l → Calls Try.prog 69 #[.slice A0 l.length c0] w fun e w' => e = .returned (.tuple #[.pointer none, .int .i64 c]) ∧ Below w.heap.size w w') :
    Calls Try.prog 24 #[.slice A0 l.length c0] w fun e w' => e = .returned (.tuple #[.slice none 0 0, .int .i64 c]) ∧ Below w.heap.size w w' := by
  have HK := Aside0.mk hk
  have HR0 := Aside0.mk hr0
  clear hr0 hc0 hk
  go_enter Try.func24, Try.ntmps24
  go_wp2_with (go_at_call 69; (with_reducible refine (HK.out _ HR0.out).mono ?_); rintro e w' ⟨rfl, hb⟩; have HB := Aside0.mk hb; clear hb)
  go_ret2
  exact ⟨rfl, HB.out⟩
set_option maxHeartbeats 8000000 in
set_option maxRecDepth 100000 in
theorem huff_Find_no (bits value : Int) (hr0 : Kd.C (Kd.int .i64) w A0 l.length l) (hc0 : l.length ≤ c0) (c : Int) (hc : (c == 0) = false) (hne : (c != 0) = true) (hk : ∀ w : World, Kd.C (Kd.int .i64) w A0 l.length l → Calls Try.prog 69 #[.slice A0 l.length c0] w fun e w' => e = .returned (.tuple #[.pointer none, .int .i64 c]) ∧ Below w.heap.size w w') :
    Calls Try.prog 26 #[.slice A0 l.length c0, .int .i64 bits, .int .i64 value] w fun e w' => e = .returned (.tuple #[.int .i64 0, .bool false, .int .i64 c]) ∧ Below w.heap.size w w' := by
  have HK := Aside0.mk hk
  have HR0 := Aside0.mk hr0
  clear hr0 hc0 hk
  go_enter Try.func26, Try.ntmps26
  go_wp2_with (go_at_call 69; (with_reducible refine (HK.out _ HR0.out).mono ?_); rintro e w' ⟨rfl, hb⟩; have HB := Aside0.mk hb; clear hb)
  refine bodyPost_ret (v := .tuple #[.int .i64 0, .bool false, .int .i64 c]) (by simp [results, Try.results26, go_sem]) rfl ?_
  exact ⟨rfl, HB.out⟩
set_option maxHeartbeats 8000000 in
set_option maxRecDepth 100000 in
theorem huff_Find_yes (bits value : Int) (s : Int) (b : Bool) (hr0 : Kd.C (Kd.int .i64) w A0 l.length l) (hc0 : l.length ≤ c0) (h1 : huffMay l = true) (h2 : ¬ HuffM.lft l 15 < 0)
    (hk : ∀ (g : Nat) (vs : Nat → Value) (w' : World), w'.heap[g]? = some (.cells (HuffA.bk (HuffM.cd l) (HuffM.cnt l) vs (HuffM.lft l 15)) 98 (0, 0)) → HuffA.Rows w' w.heap.size vs l → Calls Try.prog 70 #[.pointer (some ⟨g, 0, none⟩), .int .i64 bits, .int .i64 value] w' fun e w2 => e = .returned (.tuple #[.int .i64 s, .bool b]) ∧ Drawn0 w' w2) :
    Calls Try.prog 26 #[.slice A0 l.length c0, .int .i64 bits, .int .i64 value] w fun e w' => e = .returned (.tuple #[.int .i64 s, .bool b, .int .i64 0]) ∧ Below w.heap.size w w' := by
  have HK := Aside0.mk hk
  have HR0 := Aside0.mk hr0
  have HC0 := Aside0.mk hc0
  have H1 := Aside0.mk h1
  have H2 := Lib.hid h2
  clear hr0 hc0 hk h1 h2
  go_enter Try.func26, Try.ntmps26
  go_wp2_with (first | (go_at_call 69; (with_reducible refine (huff_book_yes A0 c0 l _ HR0.out HC0.out H1.out H2.out).mono ?_); rintro e w1 ⟨vs, g, rfl, hge, hbk, hrw, hb⟩; have HB := Aside0.mk hb; have HRW := Aside0.mk hrw; have HBK := Aside0.mk hbk; clear hbk hrw hb hge) | (go_at_call 70; (with_reducible refine (HK.out _ _ _ HBK.out HRW.out).mono ?_); rintro e w2 ⟨rfl, ⟨nd, rfl⟩⟩))
  refine bodyPost_ret (v := .tuple #[.int .i64 s, .bool b, .int .i64 0]) (by simp [results, Try.results26, go_sem]) rfl ?_
  exact ⟨rfl, pw_below_drewN HB.out _⟩
/-- The number of a check. -/
def huffNum (l : List Int) : Int := if huffMay l = false then 300 else if HuffM.lft l 15 < 0 then 301 else if HuffM.lft l 15 > 0 then 302 else 0
set_option maxHeartbeats 8000000 in
set_option maxRecDepth 100000 in
theorem huff_Check_any (hr0 : Kd.C (Kd.int .i64) w A0 l.length l) (hc0 : l.length ≤ c0) :
    Calls Try.prog 30 #[.slice A0 l.length c0] w fun e w' => e = .returned (.int .i64 (huffNum l)) ∧ Below w.heap.size w w' := by
  have HR0 := Aside0.mk hr0
  have HC0 := Aside0.mk hc0
  clear hr0 hc0
  unfold huffNum
  cases h1 : huffMay l with
  | false =>
    have HM := Aside0.mk (huffMay_at l)
    rw [h1] at HM
    clear h1
    rw [if_pos rfl]
    go_enter Try.func30, Try.ntmps30
    go_wp2_with (go_at_call 71; (with_reducible refine (huff_may.calls 300 A0 c0 l false _ HR0.out HC0.out HM.out).mono ?_); rintro e w' ⟨rfl, ⟨nd, rfl⟩⟩)
    go_ret
    exact ⟨rfl, pw_below_drewN (Below.refl _ _) _⟩
  | true =>
    have HM := Aside0.mk (huffMay_at l)
    rw [h1] at HM
    have HO := Aside0.mk (huffMay_out h1)
    clear h1
    rw [if_neg (by decide)]
    by_cases h2 : HuffM.lft l 15 < 0
    · rw [if_pos h2]
      have hd : decide (HuffM.lft l 15 < 0) = true := decide_eq_true h2
      clear h2
      go_enter Try.func30, Try.ntmps30
      go_wp2_with (first | (go_at_call 71; (with_reducible refine (huff_may.calls 300 A0 c0 l true _ HR0.out HC0.out HM.out).mono ?_); rintro e w' ⟨rfl, ⟨nd, rfl⟩⟩) | (go_at_call 72; (with_reducible refine (HuffA.make_any A0 c0 l _ (Kd.C_drewN HR0.out _) HC0.out HO.out.1 HO.out.2).mono ?_); rintro e w' ⟨vs, rfl, hbk, hrw, hb⟩; have HB := Aside0.mk hb; have hc4 : w'.cell? ⟨w.heap.size, 48, none⟩ = some (.int .i64 (HuffM.lft l 15)) := (blk_cell hbk 48).trans HuffA.bk_x; clear hbk hrw hb))
      go_ret
      exact ⟨rfl, below_then (pw_below_drewN (Below.refl _ _) nd) (Nat.le_refl _) HB.out⟩
    · rw [if_neg h2]
      have hd : decide (HuffM.lft l 15 < 0) = false := decide_eq_false h2
      by_cases h3 : HuffM.lft l 15 > 0
      · rw [if_pos h3]
        have hd2 : decide (0 < HuffM.lft l 15) = true := decide_eq_true h3
        clear h2 h3
        go_enter Try.func30, Try.ntmps30
        go_wp2_with (first | (go_at_call 71; (with_reducible refine (huff_may.calls 300 A0 c0 l true _ HR0.out HC0.out HM.out).mono ?_); rintro e w' ⟨rfl, ⟨nd, rfl⟩⟩) | (go_at_call 72; (with_reducible refine (HuffA.make_any A0 c0 l _ (Kd.C_drewN HR0.out _) HC0.out HO.out.1 HO.out.2).mono ?_); rintro e w' ⟨vs, rfl, hbk, hrw, hb⟩; have HB := Aside0.mk hb; have hc4 : w'.cell? ⟨w.heap.size, 48, none⟩ = some (.int .i64 (HuffM.lft l 15)) := (blk_cell hbk 48).trans HuffA.bk_x; clear hbk hrw hb))
        go_ret
        exact ⟨rfl, below_then (pw_below_drewN (Below.refl _ _) nd) (Nat.le_refl _) HB.out⟩
      · rw [if_neg h3]
        have hd2 : decide (0 < HuffM.lft l 15) = false := decide_eq_false h3
        clear h2 h3
        go_enter Try.func30, Try.ntmps30
        go_wp2_with (first | (go_at_call 71; (with_reducible refine (huff_may.calls 300 A0 c0 l true _ HR0.out HC0.out HM.out).mono ?_); rintro e w' ⟨rfl, ⟨nd, rfl⟩⟩) | (go_at_call 72; (with_reducible refine (HuffA.make_any A0 c0 l _ (Kd.C_drewN HR0.out _) HC0.out HO.out.1 HO.out.2).mono ?_); rintro e w' ⟨vs, rfl, hbk, hrw, hb⟩; have HB := Aside0.mk hb; have hc4 : w'.cell? ⟨w.heap.size, 48, none⟩ = some (.int .i64 (HuffM.lft l 15)) := (blk_cell hbk 48).trans HuffA.bk_x; clear hbk hrw hb))
        go_ret
        exact ⟨rfl, below_then (pw_below_drewN (Below.refl _ _) nd) (Nat.le_refl _) HB.out⟩
end

end Go.Proofs.Ytbifignggnfodaa.HF
