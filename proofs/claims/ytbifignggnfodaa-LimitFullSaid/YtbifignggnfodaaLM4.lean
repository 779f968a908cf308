-- Written by a program of this session out of the translation (a changed copy of the kit's printer).
import Derived.Test.YtbifignggnfodaaLM0
import Derived.Test.YtbifignggnfodaaLM1
import Derived.Test.YtbifignggnfodaaLM2
import Derived.Test.YtbifignggnfodaaLM3
import Derived.Deep.RegionHeld
import Derived.Test.YtbifignggnfodaaHeapF
namespace Go.Proofs.Ytbifignggnfodaa.LM
open Go.RowKit Go.Proofs.YtbifignggnfodaaW.PrintWords Go.Proofs.YtbifignggnfodaaW.PrintLast Go.Proofs.YtbifignggnfodaaW.PrintMore
attribute [local go_sem] max2_int min2_int max_two min_two max_three min_three max_four min_four   -- for this text's walks alone
set_option linter.unusedVariables false
set_option linter.unusedSimpArgs false

/-! ### limit_Lengths: function 65 -/
-- IMPORT Derived.Test.YtbifignggnfodaaHeapF
-- IMPORT Derived.Deep.RegionHeld
/-- Is a count one? -/
def limitCount (n : Int) : Bool := decide (0 ≤ n) && decide (n ≤ 2147483647)
theorem limitIdx (l : List Int) (hl : l.length ≤ 288) : ∀ (d i K : Nat), i + d = l.length → d + 1 ≤ K → ((slices_IndexFunc_int_int_F81.l0 K l (l.length : Int) (i : Int)).bind fun t => some (decide (t ≥ 0))) = some ((l.drop i).any fun x => !limitCount x)
  | 0, i, K, hi, hK => by
    obtain ⟨m, rfl⟩ : ∃ m, K = m + 1 := ⟨K - 1, by omega⟩
    rw [slices_IndexFunc_int_int_F81.l0, if_neg (by omega), List.drop_of_length_le (by omega)]
    rfl
  | d + 1, i, K, hi, hK => by
    obtain ⟨m, rfl⟩ : ∃ m, K = m + 1 := ⟨K - 1, by omega⟩
    have hlt : i < l.length := by omega
    have hd := HeapA.drop_rd l i hlt
    have ih := limitIdx l hl d (i + 1) m (by omega) (by omega)
    have hw : wrap64 ((i : Int) + 1) = ((i + 1 : Nat) : Int) := by unfold wrap64; omega
    rw [slices_IndexFunc_int_int_F81.l0, if_pos (by omega), if_pos (by omega), if_pos (by omega), hw, hd]
    by_cases h1 : rd l (i : Int) < 0
    · rw [limit_Lengths_1.f, if_pos h1]
      have : limitCount (rd l (i : Int)) = false := by unfold limitCount; rw [decide_eq_false (by omega), Bool.false_and]
      rw [List.any_cons, this]
      show some (decide ((i : Int) ≥ 0)) = some (true || _)
      rw [decide_eq_true (by omega)]
      rfl
    · rw [limit_Lengths_1.f, if_neg h1]
      by_cases h2 : rd l (i : Int) > 2147483647
      · have : limitCount (rd l (i : Int)) = false := by unfold limitCount; rw [decide_eq_false (p := rd l (i : Int) ≤ 2147483647) (by omega), Bool.and_false]
        rw [List.any_cons, this, decide_eq_true h2]
        show some (decide ((i : Int) ≥ 0)) = some (true || _)
        rw [decide_eq_true (by omega)]
        rfl
      · have : limitCount (rd l (i : Int)) = true := by unfold limitCount; rw [decide_eq_true (p := 0 ≤ rd l (i : Int)) (by omega), decide_eq_true (p := rd l (i : Int) ≤ 2147483647) (by omega)]; rfl
        rw [List.any_cons, this, decide_eq_false h2]
        exact ih
theorem limitCon_at (l : List Int) (hl : l.length ≤ 288) : slices_ContainsFunc_int_int_F81.f 300 l = some (!(l.all limitCount)) := by
  have := limitIdx l hl l.length 0 300 (by omega) (by omega)
  rw [List.all_eq_not_any_not, Bool.not_not]
  exact this
theorem limitUsed (l : List Int) (hl : l.length ≤ 288) : ∀ (d i K : Nat) (x : Nat), x ≤ i → i + d = l.length → d + 1 ≤ K → limit_used.l0 K (x : Int) l (l.length : Int) (i : Int) = some ((x + HeapM.used (l.drop i) : Nat) : Int)
  | 0, i, K, x, hx, hi, hK => by
    obtain ⟨m, rfl⟩ : ∃ m, K = m + 1 := ⟨K - 1, by omega⟩
    rw [limit_used.l0, if_neg (by omega), List.drop_of_length_le (by omega)]
    rfl
  | d + 1, i, K, x, hx, hi, hK => by
    obtain ⟨m, rfl⟩ : ∃ m, K = m + 1 := ⟨K - 1, by omega⟩
    have hlt : i < l.length := by omega
    have hd := HeapA.drop_rd l i hlt
    have hw : wrap64 ((i : Int) + 1) = ((i + 1 : Nat) : Int) := by unfold wrap64; omega
    have hw2 : wrap64 ((x : Int) + 1) = ((x + 1 : Nat) : Int) := by unfold wrap64; omega
    rw [limit_used.l0, if_pos (by omega), if_pos (by omega), if_pos (by omega), hw, hd]
    unfold HeapM.used
    by_cases h1 : rd l (i : Int) > 0
    · rw [if_pos h1, hw2, limitUsed l hl d (i + 1) m (x + 1) (by omega) (by omega) (by omega), List.filter_cons_of_pos (by simpa using h1), List.length_cons]
      unfold HeapM.used
      congr 2
      omega
    · rw [if_neg h1, limitUsed l hl d (i + 1) m x (by omega) (by omega) (by omega), List.filter_cons_of_neg (by simpa using h1)]
      rfl
theorem limitUsed_at (l : List Int) (hl : l.length ≤ 288) : limit_used.f 300 l = some (HeapM.used l : Int) := by
  have := limitUsed l hl l.length 0 300 0 (by omega) (by omega) (by omega)
  rw [Nat.zero_add] at this
  exact this
theorem limitIndex (l : List Int) (hl : l.length ≤ 288) : ∀ (d i K : Nat), i + d = l.length → d + 1 ≤ K → ((l.drop i).findIdx fun n => decide (n = 0)) < (l.drop i).length → slices_Index_int_int.l0 K l 0 (l.length : Int) (i : Int) = some ((i + (l.drop i).findIdx fun n => decide (n = 0) : Nat) : Int)
  | 0, i, K, hi, hK, h => by
    rw [List.drop_of_length_le (by omega)] at h
    exact absurd h (by simp)
  | d + 1, i, K, hi, hK, h => by
    obtain ⟨m, rfl⟩ : ∃ m, K = m + 1 := ⟨K - 1, by omega⟩
    have hlt : i < l.length := by omega
    have hd := HeapA.drop_rd l i hlt
    have hw : wrap64 ((i : Int) + 1) = ((i + 1 : Nat) : Int) := by unfold wrap64; omega
    rw [slices_Index_int_int.l0, if_pos (by omega), if_pos (by omega), if_pos (by omega), hw]
    rw [hd] at h ⊢
    by_cases h1 : rd l (i : Int) = 0
    · rw [if_pos h1.symm, List.findIdx_cons, h1]
      rfl
    · rw [if_neg (fun e => h1 e.symm)]
      have hf : decide (rd l (i : Int) = 0) = false := decide_eq_false h1
      rw [List.findIdx_cons, hf] at h ⊢
      simp only [cond_false, List.length_cons] at h ⊢
      rw [limitIndex l hl d (i + 1) m (by omega) (by omega) (by omega)]
      congr 2
      omega
theorem limitIndex_at (l : List Int) (hl : l.length ≤ 288) (h : (l.findIdx fun n => decide (n = 0)) < l.length) : slices_Index_int_int.f 300 l 0 = some ((l.findIdx fun n => decide (n = 0) : Nat) : Int) := by
  have := limitIndex l hl l.length 0 300 (by omega) (by omega) h
  rw [Nat.zero_add] at this
  exact this
theorem limitMax (l : List Int) (hl : l.length ≤ 288) : ∀ (d i K : Nat) (x : Int), 1 ≤ i → i + d = l.length → d + 1 ≤ K → ∃ y, slices_Max_int_int.l0 K l x (i : Int) = some y ∧ ∀ b, y ≤ b ↔ (x ≤ b ∧ HeapM.within (l.drop i) b = true)
  | 0, i, K, x, h0, hi, hK => by
    obtain ⟨m, rfl⟩ : ∃ m, K = m + 1 := ⟨K - 1, by omega⟩
    rw [slices_Max_int_int.l0, if_neg (by omega), List.drop_of_length_le (by omega)]
    exact ⟨x, rfl, fun b => ⟨fun h => ⟨h, rfl⟩, fun h => h.1⟩⟩
  | d + 1, i, K, x, h0, hi, hK => by
    obtain ⟨m, rfl⟩ : ∃ m, K = m + 1 := ⟨K - 1, by omega⟩
    have hlt : i < l.length := by omega
    have hd := HeapA.drop_rd l i hlt
    have hw : wrap64 ((i : Int) + 1) = ((i + 1 : Nat) : Int) := by unfold wrap64; omega
    rw [slices_Max_int_int.l0, if_pos (by omega), if_pos (by omega), hw, hd]
    obtain ⟨y, h1, h2⟩ := limitMax l hl d (i + 1) m (mx x (rd l (i : Int))) (by omega) (by omega) (by omega)
    refine ⟨y, h1, fun b => (h2 b).trans ?_⟩
    unfold HeapM.within
    rw [List.all_cons, Bool.and_eq_true, decide_eq_true_eq]
    unfold mx
    split <;> constructor <;> (rintro ⟨p, q⟩; try obtain ⟨q, r⟩ := q) <;> first | exact ⟨by omega, by omega, q⟩ | exact ⟨by omega, r⟩
theorem limitMax_at (l : List Int) (hl : l.length ≤ 288) (h0 : 0 < l.length) : ∃ y, slices_Max_int_int.f 300 l = some y ∧ ∀ b, y ≤ b ↔ HeapM.within l b = true := by
  obtain ⟨y, h1, h2⟩ := limitMax l hl (l.length - 1) 1 300 (rd l 0) (Nat.le_refl _) (by omega) (by omega)
  refine ⟨y, ?_, fun b => (h2 b).trans ?_⟩
  · unfold slices_Max_int_int.f
    rw [if_neg (by omega), if_pos (by omega)]
    exact h1
  · have hd := HeapA.drop_rd l 0 h0
    rw [List.drop_zero] at hd
    conv => rhs; rw [hd]
    unfold HeapM.within
    rw [List.all_cons, Bool.and_eq_true, decide_eq_true_eq]
    exact Iff.rfl
/-- May counts, and a bound, be? -/
def limitMay (l : List Int) (m : Int) : Bool := decide (2 ≤ l.length) && decide (l.length ≤ 288) && l.all limitCount && decide (1 ≤ m) && decide (m ≤ 15) && decide (HeapM.used l ≤ 2 ^ m.toNat)
def limit_Lengths.f (l0 : List Int) (a1 : Int) : Option (List Int × Int) := some (if limitMay l0 a1 = true then (HeapM.lengths l0 a1, 0) else ([], 400))
theorem limitPow (m : Int) (h0 : 1 ≤ m) (h1 : m ≤ 15) : wrap64 (2 ^ m.toNat) = ((2 ^ m.toNat : Nat) : Int) := by
  obtain ⟨k, hk⟩ : ∃ k, m.toNat = k := ⟨_, rfl⟩
  have h2 : k ≤ 15 := by omega
  rw [hk]
  have h3 : 2 ^ k ≤ 2 ^ 15 := Nat.pow_le_pow_right (by decide) h2
  have h4 : ((2 ^ k : Nat) : Int) = (2 : Int) ^ k := by simp
  rw [← h4]
  generalize 2 ^ k = x at h3 ⊢
  unfold wrap64
  omega
section
variable (A0 : Option Addr) (c0 : Nat) (l : List Int) (m : Int) (w : World)
def LimitNo (w : World) (e : Ending) (w' : World) : Prop := e = .returned (.tuple #[.slice none 0 0, .int .i64 400]) ∧ Below w.heap.size w w'
set_option maxHeartbeats 8000000 in
set_option maxRecDepth 100000 in
theorem limit_no1 (h1 : ¬ 2 ≤ l.length) : Calls Try.prog 65 #[.slice A0 l.length c0, .int .i64 m] w (LimitNo w) := by
  have h : (l.length : Int) < 2 := by omega
  go_enter Try.func65, Try.ntmps65
  go_wp2_with fail
  go_quiet ((fail))
  go_wp2_with fail
  go_ret2
  exact ⟨rfl, pw_below_drewN (Below.refl _ _) _⟩
set_option maxHeartbeats 8000000 in
set_option maxRecDepth 100000 in
theorem limit_no2 (h1 : 2 ≤ l.length) (h2 : ¬ l.length ≤ 288) : Calls Try.prog 65 #[.slice A0 l.length c0, .int .i64 m] w (LimitNo w) := by
  have h : ¬ (l.length : Int) < 2 := by omega
  have h' : (l.length : Int) > 288 := by omega
  go_enter Try.func65, Try.ntmps65
  go_wp2_with fail
  go_quiet ((fail))
  go_wp2_with fail
  go_ret2
  exact ⟨rfl, pw_below_drewN (Below.refl _ _) _⟩
set_option maxHeartbeats 8000000 in
set_option maxRecDepth 100000 in
theorem limit_no3 (hr0 : Kd.C (Kd.int .i64) w A0 l.length l) (hc0 : l.length ≤ c0) (h1 : 2 ≤ l.length) (h2 : l.length ≤ 288) (h3 : l.all limitCount = false) : Calls Try.prog 65 #[.slice A0 l.length c0, .int .i64 m] w (LimitNo w) := by
  have HR0 := Aside0.mk hr0
  have HC0 := Aside0.mk hc0
  have HCN : Aside0 (slices_ContainsFunc_int_int_F81.f 300 l = some true) := ⟨by rw [limitCon_at l h2, h3]; rfl⟩
  have h : decide ((l.length : Int) < 2) = false := decide_eq_false (by omega)
  have h' : decide (288 < (l.length : Int)) = false := decide_eq_false (by omega)
  clear hr0 hc0
  go_enter Try.func65, Try.ntmps65
  go_wp2_with fail
  go_quiet ((go_at_call 82; exact Calls.quiet_of ((slices_ContainsFunc_int_int_F81.calls 300 A0 c0 l true _ (Kd.C_drewN HR0.out _) HC0.out HCN.out).mono fun e w' h => ⟨h.1, h.2.out⟩)))
  go_wp2_with fail
  go_ret2
  exact ⟨rfl, pw_below_drewN (Below.refl _ _) _⟩
set_option maxHeartbeats 8000000 in
set_option maxRecDepth 100000 in
theorem limit_no4 (hr0 : Kd.C (Kd.int .i64) w A0 l.length l) (hc0 : l.length ≤ c0) (h1 : 2 ≤ l.length) (h2 : l.length ≤ 288) (h3 : l.all limitCount = true) (h4 : m < 1) : Calls Try.prog 65 #[.slice A0 l.length c0, .int .i64 m] w (LimitNo w) := by
  have HR0 := Aside0.mk hr0
  have HC0 := Aside0.mk hc0
  have HCN : Aside0 (slices_ContainsFunc_int_int_F81.f 300 l = some false) := ⟨by rw [limitCon_at l h2, h3]; rfl⟩
  have h : decide ((l.length : Int) < 2) = false := decide_eq_false (by omega)
  have h' : decide (288 < (l.length : Int)) = false := decide_eq_false (by omega)
  have hm : decide (m < 1) = true := decide_eq_true h4
  clear hr0 hc0
  go_enter Try.func65, Try.ntmps65
  go_wp2_with fail
  go_quiet ((go_at_call 82; exact Calls.quiet_of ((slices_ContainsFunc_int_int_F81.calls 300 A0 c0 l false _ (Kd.C_drewN HR0.out _) HC0.out HCN.out).mono fun e w' h => ⟨h.1, h.2.out⟩)))
  go_wp2_with fail
  go_ret2
  exact ⟨rfl, pw_below_drewN (Below.refl _ _) _⟩
set_option maxHeartbeats 8000000 in
set_option maxRecDepth 100000 in
theorem limit_no5 (hr0 : Kd.C (Kd.int .i64) w A0 l.length l) (hc0 : l.length ≤ c0) (h1 : 2 ≤ l.length) (h2 : l.length ≤ 288) (h3 : l.all limitCount = true) (h4 : ¬ m < 1) (h5 : m > 15) : Calls Try.prog 65 #[.slice A0 l.length c0, .int .i64 m] w (LimitNo w) := by
  have HR0 := Aside0.mk hr0
  have HC0 := Aside0.mk hc0
  have HCN : Aside0 (slices_ContainsFunc_int_int_F81.f 300 l = some false) := ⟨by rw [limitCon_at l h2, h3]; rfl⟩
  have h : decide ((l.length : Int) < 2) = false := decide_eq_false (by omega)
  have h' : decide (288 < (l.length : Int)) = false := decide_eq_false (by omega)
  have hm : decide (m < 1) = false := decide_eq_false h4
  have hm2 : decide (15 < m) = true := decide_eq_true (by omega)
  clear hr0 hc0
  go_enter Try.func65, Try.ntmps65
  go_wp2_with fail
  go_quiet ((go_at_call 82; exact Calls.quiet_of ((slices_ContainsFunc_int_int_F81.calls 300 A0 c0 l false _ (Kd.C_drewN HR0.out _) HC0.out HCN.out).mono fun e w' h => ⟨h.1, h.2.out⟩)))
  go_wp2_with fail
  go_ret2
  exact ⟨rfl, pw_below_drewN (Below.refl _ _) _⟩
set_option maxHeartbeats 8000000 in
set_option maxRecDepth 100000 in
theorem limit_no6 (hr0 : Kd.C (Kd.int .i64) w A0 l.length l) (hc0 : l.length ≤ c0) (h1 : 2 ≤ l.length) (h2 : l.length ≤ 288) (h3 : l.all limitCount = true) (h4 : ¬ m < 1) (h5 : ¬ m > 15) (h6 : ¬ HeapM.used l ≤ 2 ^ m.toNat) : Calls Try.prog 65 #[.slice A0 l.length c0, .int .i64 m] w (LimitNo w) := by
  have HR0 := Aside0.mk hr0
  have HC0 := Aside0.mk hc0
  have HCN : Aside0 (slices_ContainsFunc_int_int_F81.f 300 l = some false) := ⟨by rw [limitCon_at l h2, h3]; rfl⟩
  have HUS : Aside0 (limit_used.f 300 l = some (HeapM.used l : Int)) := ⟨limitUsed_at l h2⟩
  have h : decide ((l.length : Int) < 2) = false := decide_eq_false (by omega)
  have h' : decide (288 < (l.length : Int)) = false := decide_eq_false (by omega)
  have hm : decide (m < 1) = false := decide_eq_false h4
  have hm2 : decide (15 < m) = false := decide_eq_false (by omega)
  have hm3 : decide (wrap64 (2 ^ m.toNat) < (HeapM.used l : Int)) = true := decide_eq_true (by rw [limitPow m (by omega) (by omega)]; omega)
  clear hr0 hc0
  go_enter Try.func65, Try.ntmps65
  go_wp2_with fail
  go_quiet (first | (go_at_call 82; exact Calls.quiet_of ((slices_ContainsFunc_int_int_F81.calls 300 A0 c0 l false _ (Kd.C_drewN HR0.out _) HC0.out HCN.out).mono fun e w' h => ⟨h.1, h.2.out⟩)) | (go_at_call 83; exact Calls.quiet_of ((limit_used.calls 300 A0 c0 l (HeapM.used l : Int) _ (Kd.C_drewN HR0.out _) HC0.out HUS.out).mono fun e w' h => ⟨h.1, h.2.out⟩)))
  go_wp2_with fail
  go_ret2
  exact ⟨rfl, pw_below_drewN (Below.refl _ _) _⟩
end
theorem limitC {W : World} {b n c : Nat} {A : Option Addr} {xs : List Int} (h : W.ownsRow b 3 1 (.slice A n c) n (nums .i64 xs)) (hl : xs.length = n) : n ≤ c ∧ Kd.C (Kd.int .i64) W A n xs := by
  subst hl
  have hR : (Kd.int .i64).R 3 W b (fun _ => True) (.slice A xs.length c) xs := Kd.R_of_own h (fun _ _ => trivial)
  obtain ⟨_, h1, h2⟩ := Kd.R_reads' hR
  exact ⟨h1, h2⟩
section
variable {W : World} {b n c : Nat} {A : Option Addr} {xs : List Int} (h : W.ownsRow b 3 1 (.slice A n c) n (nums .i64 xs)) (hl : xs.length = n) (hn : n ≤ 288)
include h hl hn
theorem limit_used_own : Calls Try.prog 83 #[.slice A n c] W fun e w' => e = .returned (.int .i64 (HeapM.used xs : Int)) ∧ Drawn0 W w' := by
  obtain ⟨h1, h2⟩ := limitC h hl
  subst hl
  exact limit_used.calls 300 A c xs _ W h2 h1 (limitUsed_at xs hn)
theorem limit_index_own (hz : (xs.findIdx fun n => decide (n = 0)) < xs.length) : Calls Try.prog 85 #[.slice A n c, .int .i64 0] W fun e w' => e = .returned (.int .i64 ((xs.findIdx fun n => decide (n = 0) : Nat) : Int)) ∧ Drawn0 W w' := by
  obtain ⟨h1, h2⟩ := limitC h hl
  subst hl
  exact slices_Index_int_int.calls 300 A c xs 0 _ W h2 h1 (limitIndex_at xs hn hz)
theorem limit_max_own (h0 : 0 < n) (m : Int) : Calls Try.prog 87 #[.slice A n c] W fun e w' => ∃ y, e = .returned (.int .i64 y) ∧ (decide (y ≤ m) = HeapM.within xs m) ∧ Below W.heap.size W w' := by
  obtain ⟨h1, h2⟩ := limitC h hl
  subst hl
  obtain ⟨y, h3, h4⟩ := limitMax_at xs hn h0
  refine (slices_Max_int_int.calls 300 A c xs y W h2 h1 h3).mono fun e w' ⟨he, hb⟩ => ⟨y, he, ?_, hb⟩
  cases hw : HeapM.within xs m with
  | true => exact decide_eq_true ((h4 m).2 hw)
  | false => exact decide_eq_false fun hy => by rw [(h4 m).1 hy] at hw; exact absurd hw (by decide)
theorem limit_deep_own (h0 : 0 < n) (hx : ∀ x ∈ xs, x ≤ 2147483647) : Calls Try.prog 86 #[.slice A n c] W fun e w' => ∃ g cap, e = .returned (.slice (some ⟨g, 0, none⟩) n cap) ∧ w'.ownsRow W.heap.size 3 1 (.slice (some ⟨g, 0, none⟩) n cap) n (nums .i64 (HeapM.deepM xs)) ∧ Below W.heap.size W w' := by
  obtain ⟨h1, h2⟩ := limitC h hl
  subst hl
  have hf : limit_deep.f xs = some (HeapM.deepM xs) := by
    unfold limit_deep.f
    rw [if_pos h0, if_pos hn, if_pos (List.all_eq_true.2 fun x hx' => decide_eq_true (hx x hx'))]
  refine (limit_deep.calls A c xs _ W h2 h1 hf).mono fun e w' ⟨v, he, hr, hb⟩ => ?_
  have hlen : (HeapM.deepM xs).length = xs.length := (HeapM.deep_full 300 xs (by have := HeapM.used_le xs; omega)).len
  have ho := Kd.own_of_R hr
  rw [hlen] at ho
  obtain ⟨g, cap, hv, _, _⟩ := ho.form h0
  subst hv
  exact ⟨g, cap, he, ho, hb⟩
end
theorem limit_clone_own (A0 : Option Addr) (c0 : Nat) (l : List Int) (W : World) (hr0 : Kd.C (Kd.int .i64) W A0 l.length l) (hc0 : l.length ≤ c0) (h0 : 0 < l.length) (hl : l.length ≤ 288) : Calls Try.prog 84 #[.slice A0 l.length c0] W fun e w' => ∃ g cap, e = .returned (.slice (some ⟨g, 0, none⟩) l.length cap) ∧ w'.ownsRow W.heap.size 3 1 (.slice (some ⟨g, 0, none⟩) l.length cap) l.length (nums .i64 l) ∧ Below W.heap.size W w' := by
  have hf : slices_Clone_int_int.f l = some l := by unfold slices_Clone_int_int.f; rw [if_pos (by omega)]
  refine (slices_Clone_int_int.calls A0 c0 l l W hr0 hc0 hf).mono fun e w' ⟨v, he, hr, hb⟩ => ?_
  have ho := Kd.own_of_R hr
  obtain ⟨g, cap, hv, _, _⟩ := ho.form h0
  subst hv
  exact ⟨g, cap, he, ho, hb⟩
/-- What Lengths gives where there is one. -/
def LimitYes (w : World) (r : List Int) (e : Ending) (w' : World) : Prop := ∃ v0_ : Value, e = .returned (.tuple #[v0_, .int .i64 0]) ∧ Kd.R (Kd.int .i64) 3 w' w.heap.size (fun _ => True) v0_ r ∧ Below w.heap.size w w'
/-- The counts, some of them halved. -/
structure LimitHalf (cs ds : List Int) (i : Nat) : Prop where
  len : ds.length = cs.length
  at_ : ∀ q : Nat, ds.getD q 0 = if q < i then (cs.getD q 0 + 1) / 2 else cs.getD q 0
theorem LimitHalf.zero (cs : List Int) : LimitHalf cs cs 0 := ⟨rfl, fun q => by rw [if_neg (by omega)]⟩
theorem LimitHalf.next {cs ds : List Int} {i : Nat} (h : LimitHalf cs ds i) (hi : i < cs.length) : LimitHalf cs (ds.set i ((cs.getD i 0 + 1) / 2)) (i + 1) := by
  refine ⟨by rw [List.length_set]; exact h.len, fun q => ?_⟩
  rw [HeapM.getD_set' _ _ _ _ (by rw [h.len]; exact hi)]
  by_cases e : i = q
  · subst e
    rw [if_pos rfl, if_pos (by omega)]
  · rw [if_neg e, h.at_ q]
    by_cases e2 : q < i
    · rw [if_pos e2, if_pos (by omega)]
    · rw [if_neg e2, if_neg (by omega)]
theorem LimitHalf.done {cs ds : List Int} {i : Nat} (h : LimitHalf cs ds i) (hi : cs.length ≤ i) : ds = HeapM.half cs := by
  apply List.ext_getElem?
  intro q
  by_cases hq : q < cs.length
  · have h1 := h.at_ q
    have h2 := HeapM.half_getD cs q
    rw [if_pos (by omega), ← h2, List.getD_eq_getElem?_getD, List.getD_eq_getElem?_getD, List.getElem?_eq_getElem (by rw [h.len]; exact hq), List.getElem?_eq_getElem (by rw [HeapM.half_length]; exact hq)] at h1
    rw [List.getElem?_eq_getElem (by rw [h.len]; exact hq), List.getElem?_eq_getElem (by rw [HeapM.half_length]; exact hq)]
    exact congrArg some h1
  · rw [List.getElem?_eq_none (by rw [h.len]; omega), List.getElem?_eq_none (by rw [HeapM.half_length]; omega)]
set_option maxHeartbeats 8000000 in
set_option maxRecDepth 100000 in
theorem limit_yes (A0 : Option Addr) (c0 : Nat) (l : List Int) (m : Int) (w : World) (hr0 : Kd.C (Kd.int .i64) w A0 l.length l) (hc0 : l.length ≤ c0) (h1 : 2 ≤ l.length) (h2 : l.length ≤ 288) (h3 : l.all limitCount = true) (h4 : ¬ m < 1) (h5 : ¬ m > 15) (h6 : HeapM.used l ≤ 2 ^ m.toNat) :
    Calls Try.prog 65 #[.slice A0 l.length c0, .int .i64 m] w (LimitYes w (HeapM.lengths l m)) := by
  have HR0 := Aside0.mk hr0
  have HC0 := Aside0.mk hc0
  have HCN : Aside0 (slices_ContainsFunc_int_int_F81.f 300 l = some false) := ⟨by rw [limitCon_at l h2, h3]; rfl⟩
  have HUS : Aside0 (limit_used.f 300 l = some (HeapM.used l : Int)) := ⟨limitUsed_at l h2⟩
  have h : decide ((l.length : Int) < 2) = false := decide_eq_false (by omega)
  have h' : decide (288 < (l.length : Int)) = false := decide_eq_false (by omega)
  have hm : decide (m < 1) = false := decide_eq_false h4
  have hm2 : decide (15 < m) = false := decide_eq_false (by omega)
  have hm3 : decide (wrap64 (2 ^ m.toNat) < (HeapM.used l : Int)) = false := decide_eq_false (by rw [limitPow m (by omega) (by omega)]; omega)
  have hall : ∀ c ∈ l, 0 ≤ c ∧ c ≤ 2147483647 := fun c hc => by
    have := List.all_eq_true.1 h3 c hc
    unfold limitCount at this
    rw [Bool.and_eq_true, decide_eq_true_eq, decide_eq_true_eq] at this
    exact this
  have HOW := Aside0.mk (HeapM.own_is l h1 hall)
  have HZ : Aside0 (HeapM.used l = 1 → (l.findIdx fun n => decide (n = 0)) < l.length) := ⟨fun hu => HeapM.zero_in l (fun c hc => (hall c hc).1) (by omega)⟩
  have HU6 := Aside0.mk h6
  have hul : (HeapM.used l : Int) ≤ 288 := by have := HeapM.used_le l; omega
  have hul0 : (0 : Int) ≤ (HeapM.used l : Int) := by omega
  have HL1 := Aside0.mk h1
  have HL2 := Aside0.mk h2
  have HM4 := Aside0.mk h4
  have HM5 := Aside0.mk h5
  clear hr0 hc0 h1 h2 h3 h6 hall
  go_enter Try.func65, Try.ntmps65
  go_wp2_with fail
  go_quiet (first | (go_at_call 82; exact Calls.quiet_of ((slices_ContainsFunc_int_int_F81.calls 300 A0 c0 l false _ (Kd.C_drewN HR0.out _) HC0.out HCN.out).mono fun e w' h => ⟨h.1, h.2.out⟩)) | (go_at_call 83; exact Calls.quiet_of ((limit_used.calls 300 A0 c0 l (HeapM.used l : Int) _ (Kd.C_drewN HR0.out _) HC0.out HUS.out).mono fun e w' h => ⟨h.1, h.2.out⟩)))
  clear h h' hm hm2 hm3
  obtain ⟨ix, hix⟩ : ∃ ix, (l.findIdx fun n => decide (n = 0)) = ix := ⟨_, rfl⟩
  have HIX := Aside0.mk hix
  have hix0 : (0 : Int) ≤ (ix : Int) := by omega
  have HOL : Aside0 (HeapM.own l = if HeapM.used l = 1 then l.set ix 1 else l) := ⟨by unfold HeapM.own; rw [hix]⟩
  rcases Decidable.em (HeapM.used l = 1) with hu | hu
  case' inl =>
    have hub : ((HeapM.used l : Int) == 1) = true := by rw [hu]; rfl
    have hixl : (ix : Int) < (l.length : Int) := by have := HZ.out hu; rw [hix] at this; omega
    go_wp2_with (first | (go_at_call 84; (with_reducible refine (limit_clone_own A0 c0 l _ (Kd.C_drewN HR0.out _) HC0.out (by have := HL1.out; omega) HL2.out).mono ?_); rintro e w1 ⟨g, cap, rfl, ho, hb⟩; have HO := Aside0.mk ho; have HB := Aside0.mk hb; clear ho hb) | (go_at_call 83; (with_reducible refine (limit_used_own (by first | exact HO.out | exact HO.out.drewN _) rfl HL2.out).mono ?_); rintro e w2 ⟨rfl, ⟨nd, rfl⟩⟩; have HOd := Aside0.mk (show (w1.drewN nd).ownsRow w.heap.size 3 1 (.slice (some ⟨g, 0, none⟩) l.length cap) l.length (nums .i64 l) from HO.out); obtain ⟨hcx, hfx⟩ := own_at (show w1.ownsRow w.heap.size 3 1 (.slice (some ⟨g, 0, none⟩) l.length cap) l.length (nums .i64 l) from HO.out) (ix : Int) hix0 hixl; rw [Int.toNat_natCast] at hcx hfx) | (go_at_call 85; (with_reducible refine (limit_index_own HOd.out rfl HL2.out (HZ.out hu)).mono ?_); rintro e w3 ⟨rfl, ⟨nd2, rfl⟩⟩; rw [hix]))
    have HO2 : Aside0 (((w1.drewN (nd + nd2)).setCell ⟨g, ix, none⟩ (.int .i64 1)).ownsRow w.heap.size 3 1 (.slice (some ⟨g, 0, none⟩) l.length cap) l.length (nums .i64 (HeapM.own l))) := ⟨by
      rw [HOL.out, if_pos hu]
      have := (own_store (W := w1.drewN (nd + nd2)) HOd.out (ix : Int) 1).1
      rw [Int.toNat_natCast] at this
      exact this⟩
    have HB2 : Aside0 (Below w.heap.size w ((w1.drewN (nd + nd2)).setCell ⟨g, ix, none⟩ (.int .i64 1))) := ⟨below_set (pw_below_drewN (below_then (pw_below_drewN (Below.refl _ _) nq) (Nat.le_refl _) HB.out) _) (own_base HOd.out g rfl)⟩
    generalize ((w1.drewN (nd + nd2)).setCell ⟨g, ix, none⟩ (.int .i64 1)) = w2 at HO2 HB2 ⊢
    clear HO HB HOd hcx hfx hixl
  case' inr =>
    have hub : ((HeapM.used l : Int) == 1) = false := beq_eq_false_iff_ne.mpr (by omega)
    go_wp2_with (first | (go_at_call 84; (with_reducible refine (limit_clone_own A0 c0 l _ (Kd.C_drewN HR0.out _) HC0.out (by have := HL1.out; omega) HL2.out).mono ?_); rintro e w1 ⟨g, cap, rfl, ho, hb⟩; have HO := Aside0.mk ho; have HB := Aside0.mk hb; clear ho hb) | (go_at_call 83; (with_reducible refine (limit_used_own (by first | exact HO.out | exact HO.out.drewN _) rfl HL2.out).mono ?_); rintro e w2 ⟨rfl, ⟨nd, rfl⟩⟩))
    have HO2 : Aside0 ((w1.drewN nd).ownsRow w.heap.size 3 1 (.slice (some ⟨g, 0, none⟩) l.length cap) l.length (nums .i64 (HeapM.own l))) := ⟨by rw [HOL.out, if_neg hu]; exact HO.out⟩
    have HB2 : Aside0 (Below w.heap.size w (w1.drewN nd)) := ⟨pw_below_drewN (below_then (pw_below_drewN (Below.refl _ _) nq) (Nat.le_refl _) HB.out) _⟩
    generalize (w1.drewN nd) = w2 at HO2 HB2 ⊢
    clear HO HB
  all_goals
    clear hix hub
    have HON : Aside0 (∀ q, 0 ≤ (HeapM.own l).getD q 0 ∧ (HeapM.own l).getD q 0 ≤ 2147483647) := ⟨fun q => ⟨HOW.out.ge q, HOW.out.le q⟩⟩
    have HUO : Aside0 (HeapM.used (HeapM.own l) ≤ 2 ^ m.toNat) := ⟨by
      have := HOW.out.us
      have h6 := HU6.out
      have h7 : 2 ^ 1 ≤ 2 ^ m.toNat := Nat.pow_le_pow_right (by decide) (by have := HM4.out; omega)
      split at this <;> omega⟩
    go_loopg [8] 32 (fun kq v8 wr => ∃ (cs : List Int), Aside0 (cs.length = l.length) ∧ Aside0 (wr.ownsRow w.heap.size 3 1 (.slice (some ⟨g, 0, none⟩) l.length cap) l.length (nums .i64 cs)) ∧ Aside0 (∀ q, 0 ≤ cs.getD q 0 ∧ cs.getD q 0 ≤ 2147483647) ∧ Aside0 (∀ q, cs.getD q 0 ≤ 2 ^ kq) ∧ Aside0 (HeapM.used cs ≤ 2 ^ m.toNat) ∧ Aside0 (HeapM.search (kq + 1) cs m = HeapM.lengths l m) ∧ Aside0 (Below w.heap.size w wr))
    case atStart => exact ⟨HeapM.own l, ⟨HeapM.own_length l⟩, HO2, HON, ⟨fun q => by have := (HON.out q).2; have : (2 : Int) ^ 32 = 4294967296 := by decide
                                                                                     omega⟩, HUO, ⟨rfl⟩, HB2⟩
    case round =>
      clear HO2 HB2 HON HUO
      obtain ⟨cs, HLC, HO, HN, HK, HU, HS, HB⟩ := hrel
      have HXX : Aside0 (∀ x ∈ cs, x ≤ 2147483647) := ⟨fun x hx => by
        obtain ⟨q, hq, e⟩ := List.getElem_of_mem hx
        have := (HN.out q).2
        rw [List.getD_eq_getElem?_getD, List.getElem?_eq_getElem hq, e] at this
        exact this⟩
      have HLD : Aside0 ((HeapM.deepM cs).length = l.length) := ⟨by rw [(HeapM.deep_full 300 cs (by have := HeapM.used_le cs; have := HLC.out; have := HL2.out; omega)).len]; exact HLC.out⟩
      cases hwi : HeapM.within (HeapM.deepM cs) m with
      | true =>
        have HWI := Aside0.mk hwi
        clear hwi
        go_wp2_with (first | (go_at_call 86; (with_reducible refine (limit_deep_own HO.out HLC.out HL2.out (by have := HL1.out; omega) HXX.out).mono ?_); rintro e w3 ⟨g2, cap2, rfl, hr, hb⟩; have HR2 := Aside0.mk hr; have HB3 := Aside0.mk hb; clear hr hb) | (go_at_call 87; (with_reducible refine (limit_max_own HR2.out HLD.out HL2.out (by have := HL1.out; omega) m).mono ?_); rintro e w4 ⟨y, rfl, hy, hb⟩; rw [HWI.out] at hy; have HB4 := Aside0.mk hb; clear hb))
        go_ret2
        have hres : HeapM.deepM cs = HeapM.lengths l m := by
          have := HS.out
          rw [HeapM.search, if_pos HWI.out] at this
          exact this
        have hB3 := below_then HB.out HB.out.size HB3.out
        have hrow := own_weaken (pw_own_below HR2.out HB4.out) HB.out.size
        have hlen := HLD.out
        rw [hres] at hrow hlen
        refine ⟨_, rfl, Kd.R_of_own ?_ (fun _ _ => trivial), below_then hB3 hB3.size HB4.out⟩
        show w4.ownsRow w.heap.size 3 1 (.slice (some ⟨g2, 0, none⟩) l.length cap2) _ _
        rw [hlen]
        exact hrow
      | false =>
        have HWI := Aside0.mk hwi
        clear hwi
        go_wp2_with (first | (go_at_call 86; (with_reducible refine (limit_deep_own HO.out HLC.out HL2.out (by have := HL1.out; omega) HXX.out).mono ?_); rintro e w3 ⟨g2, cap2, rfl, hr, hb⟩; have HR2 := Aside0.mk hr; have HB3 := Aside0.mk hb; clear hr hb) | (go_at_call 87; (with_reducible refine (limit_max_own HR2.out HLD.out HL2.out (by have := HL1.out; omega) m).mono ?_); rintro e w4 ⟨y, rfl, hy, hb⟩; rw [HWI.out] at hy; have HB4 := Aside0.mk hb; clear hb))
        cases gk with
        | zero =>
          exfalso
          have h1 := HeapM.deep_ones cs m.toNat (fun q => HK.out q) HU.out
          have h2 : HeapM.within (HeapM.deepM cs) m = true := (HeapM.within_iff _ _).2 fun s hs _ => by have := h1 s hs; have := HM4.out; omega
          rw [HWI.out] at h2
          exact absurd h2 (by decide)
        | succ k1 =>
          have HO4 : Aside0 (w4.ownsRow w.heap.size 3 1 (.slice (some ⟨g, 0, none⟩) l.length cap) l.length (nums .i64 cs)) := ⟨pw_own_below (pw_own_below HO.out HB3.out) HB4.out⟩
          have HB5 : Aside0 (Below w.heap.size w w4) := ⟨by
            have hB3 := below_then HB.out HB.out.size HB3.out
            exact below_then hB3 hB3.size HB4.out⟩
          clear HO HB HB3 HB4 HR2 hy
          have hl1 : (l.length : Int) ≤ 288 := by have := HL2.out; omega
          go_wp2_with fail
          go_loopw [57] (fun v57 wq => ∃ (i : Nat) (ds : List Int), v57 = .int .i64 (i : Int) ∧ i ≤ l.length ∧ Aside0 (LimitHalf cs ds i) ∧ Aside0 (wq.ownsRow w.heap.size 3 1 (.slice (some ⟨g, 0, none⟩) l.length cap) l.length (nums .i64 ds)) ∧ Aside0 (Below w.heap.size w wq)) (fun v57 _ => l.length - (intOf v57).toNat)
          case atStart => exact ⟨0, cs, rfl, Nat.zero_le _, ⟨LimitHalf.zero cs⟩, HO4, HB5⟩
          case round =>
            clear HO4 HB5
            obtain ⟨i, ds, rfl, hi, HH, HO, HB⟩ := hrel
            by_cases hlt : i < l.length
            · have hlt' : (i : Int) < (l.length : Int) := by omega
              obtain ⟨hc, hf⟩ := own_at HO.out (i : Int) (by omega) hlt'
              obtain ⟨x, hx⟩ : ∃ x, rd ds (i : Int) = x := ⟨_, rfl⟩
              have hx2 : x = cs.getD i 0 := by
                rw [← hx, rd, Int.toNat_natCast, HH.out.at_ i, if_neg (by omega)]
              rw [hx, Int.toNat_natCast] at hc
              rw [Int.toNat_natCast] at hf
              have hx0 : 0 ≤ x := by rw [hx2]; exact (HN.out i).1
              have hx1 : x ≤ 2147483647 := by rw [hx2]; exact (HN.out i).2
              have HX2 := Aside0.mk hx2
              have htd : (x + 1).tdiv 2 = (x + 1) / 2 := Int.tdiv_eq_ediv_of_nonneg (by omega)
              clear hx hx2
              go_wp2_with fail
              have hst := (own_store HO.out (i : Int) ((x + 1) / 2)).1
              rw [Int.toNat_natCast] at hst
              refine ⟨⟨i + 1, ds.set i ((x + 1) / 2), rfl, by omega, ⟨by rw [HX2.out]; exact HH.out.next (by rw [HLC.out]; exact hlt)⟩, ⟨hst⟩, ⟨below_set HB.out (own_base HO.out g rfl)⟩⟩, ?_⟩
              show l.length - ((i : Int) + 1).toNat < l.length - (i : Int).toNat
              omega
            · have hie : i = l.length := by omega
              have hds : ds = HeapM.half cs := HH.out.done (by rw [HLC.out]; omega)
              subst hds
              have hlt' : ¬ (i : Int) < (l.length : Int) := by omega
              have hlt2 : decide ((i : Int) < (l.length : Int)) = false := decide_eq_false hlt'
              go_wp2_with fail
              go_roundg k1
              case measure => omega
              case rel =>
                have hs2 : HeapM.search (k1 + 1) (HeapM.half cs) m = HeapM.lengths l m := by
                  have := HS.out
                  rw [HeapM.search, if_neg (by rw [HWI.out]; decide)] at this
                  exact this
                refine ⟨HeapM.half cs, ⟨by rw [HeapM.half_length]; exact HLC.out⟩, HO, ⟨fun q => ?_⟩, ⟨fun q => ?_⟩, ⟨by rw [HeapM.half_used]; exact HU.out⟩, ⟨hs2⟩, HB⟩
                · have := HN.out q
                  rw [HeapM.half_getD]
                  omega
                · have := HK.out q
                  rw [Int.pow_succ] at this
                  rw [HeapM.half_getD]
                  generalize (2 : Int) ^ k1 = z at this ⊢
                  omega
theorem limitMay_is (l : List Int) (m : Int) : limitMay l m = true ↔ (2 ≤ l.length ∧ l.length ≤ 288 ∧ l.all limitCount = true ∧ 1 ≤ m ∧ m ≤ 15 ∧ HeapM.used l ≤ 2 ^ m.toNat) := by
  unfold limitMay
  simp only [Bool.and_eq_true, decide_eq_true_eq, and_assoc]
theorem limit_Lengths.calls (A0 : Option Addr) (c0 : Nat) (l0 : List Int) (a1 : Int) (r1 : List Int) (r2 : Int) (w : World) (hr0 : Kd.C (Kd.int .i64) w A0 l0.length l0) (hc0 : l0.length ≤ c0) (h : limit_Lengths.f l0 a1 = some (r1, r2)) :
    Calls Try.prog 65 #[.slice A0 l0.length c0, .int .i64 a1] w fun e w' => ∃ v0_ : Value, e = .returned (.tuple #[v0_, .int .i64 r2]) ∧ Kd.R (Kd.int .i64) 3 w' w.heap.size (fun _ => True) v0_ r1 ∧ Below w.heap.size w w' := by
  have h := Option.some.inj h
  have no : limitMay l0 a1 ≠ true → Calls Try.prog 65 #[.slice A0 l0.length c0, .int .i64 a1] w (LimitNo w) → Calls Try.prog 65 #[.slice A0 l0.length c0, .int .i64 a1] w fun e w' => ∃ v0_ : Value, e = .returned (.tuple #[v0_, .int .i64 r2]) ∧ Kd.R (Kd.int .i64) 3 w' w.heap.size (fun _ => True) v0_ r1 ∧ Below w.heap.size w w' := fun hn hc => by
    rw [if_neg hn] at h
    injection h with e1 e2
    subst e1 e2
    exact hc.mono fun e w' ⟨he, hb⟩ => ⟨_, he, Kd.R_nil _ _ _ _ _, hb⟩
  by_cases h1 : 2 ≤ l0.length
  · by_cases h2 : l0.length ≤ 288
    · cases h3 : l0.all limitCount with
      | false => exact no (fun hm => by have := ((limitMay_is l0 a1).1 hm).2.2.1; rw [h3] at this; exact absurd this (by decide)) (limit_no3 A0 c0 l0 a1 w hr0 hc0 h1 h2 h3)
      | true =>
        by_cases h4 : a1 < 1
        · exact no (fun hm => by have := ((limitMay_is l0 a1).1 hm).2.2.2.1; omega) (limit_no4 A0 c0 l0 a1 w hr0 hc0 h1 h2 h3 h4)
        · by_cases h5 : a1 > 15
          · exact no (fun hm => by have := ((limitMay_is l0 a1).1 hm).2.2.2.2.1; omega) (limit_no5 A0 c0 l0 a1 w hr0 hc0 h1 h2 h3 h4 h5)
          · by_cases h6 : HeapM.used l0 ≤ 2 ^ a1.toNat
            · rw [if_pos ((limitMay_is l0 a1).2 ⟨h1, h2, h3, by omega, by omega, h6⟩)] at h
              injection h with e1 e2
              subst e1 e2
              exact limit_yes A0 c0 l0 a1 w hr0 hc0 h1 h2 h3 h4 h5 h6
            · exact no (fun hm => h6 ((limitMay_is l0 a1).1 hm).2.2.2.2.2) (limit_no6 A0 c0 l0 a1 w hr0 hc0 h1 h2 h3 h4 h5 h6)
    · exact no (fun hm => h2 ((limitMay_is l0 a1).1 hm).2.1) (limit_no2 A0 c0 l0 a1 w h1 h2)
  · exact no (fun hm => h1 ((limitMay_is l0 a1).1 hm).1) (limit_no1 A0 c0 l0 a1 w h1)

end Go.Proofs.Ytbifignggnfodaa.LM
