/- What a heap of trees keeps, over plain lists: the least one stands in front; pop and push leave a heap of the same trees. No program in sight. -/
import Derived.Test.YtbifignggnfodaaHeapM
namespace Go.Proofs.Ytbifignggnfodaa.HeapM
set_option linter.unusedVariables false
set_option linter.unusedSimpArgs false
theorem lt_irrefl (a : T) : lt a a = false := by unfold lt; simp
theorem lt_trans {a b c : T} (h1 : lt a b = true) (h2 : lt b c = true) : lt a c = true := by
  unfold lt at *
  split at h1 <;> split at h2 <;> split <;> simp only [decide_eq_true_eq] at h1 h2 ⊢ <;> omega
theorem lt_asymm {a b : T} (h1 : lt a b = true) : lt b a = false := by
  cases h : lt b a with
  | false => rfl
  | true => exact absurd (lt_trans h1 h) (by rw [lt_irrefl]; decide)
theorem le_trans {a b c : T} (h1 : lt b a = false) (h2 : lt c b = false) : lt c a = false := by
  unfold lt at *
  split at h1 <;> split at h2 <;> split <;> simp only [decide_eq_false_iff_not] at h1 h2 ⊢ <;> omega
theorem le_of_lt {a b : T} (h1 : lt a b = true) : lt b a = false := lt_asymm h1
theorem lget_set (ts : List T) (i q : Nat) (x : T) (hi : i < ts.length) : get (ts.set i x) q = if i = q then x else get ts q := by
  unfold get
  rw [List.getD_eq_getElem?_getD, List.getElem?_set]
  by_cases e : i = q
  · rw [if_pos e, if_pos e, if_pos hi]; rfl
  · rw [if_neg e, if_neg e, List.getD_eq_getElem?_getD]
theorem lget_swap (ts : List T) (i j q : Nat) (hi : i < ts.length) (hj : j < ts.length) : get (swap ts i j) q = if j = q then get ts i else if i = q then get ts j else get ts q := by
  unfold swap
  rw [lget_set _ _ _ _ (by simpa using hj), lget_set _ _ _ _ hi]
theorem get_mem (ts : List T) (i : Nat) (hi : i < ts.length) : get ts i ∈ ts := by
  unfold get
  rw [List.getD_eq_getElem?_getD, List.getElem?_eq_getElem hi]
  exact List.getElem_mem hi
theorem mem_get {ts : List T} {x : T} (h : x ∈ ts) : ∃ i, i < ts.length ∧ get ts i = x := by
  obtain ⟨i, hi, e⟩ := List.getElem_of_mem h
  refine ⟨i, hi, ?_⟩
  unfold get
  rw [List.getD_eq_getElem?_getD, List.getElem?_eq_getElem hi, ← e]
  rfl
theorem set_perm : ∀ (ts : List T) (i : Nat) (x : T), i < ts.length → (get ts i :: ts.set i x).Perm (x :: ts)
  | [], i, x, h => absurd h (by simp)
  | t :: ts, 0, x, h => by
    simp only [get, List.getD_cons_zero, List.set_cons_zero]
    exact List.Perm.swap _ _ _
  | t :: ts, i + 1, x, h => by
    have := set_perm ts i x (by simpa using h)
    simp only [get, List.getD_cons_succ, List.set_cons_succ] at *
    exact ((List.Perm.swap _ _ _).trans (this.cons t)).trans (List.Perm.swap _ _ _)
theorem swap_perm (ts : List T) (i j : Nat) (hi : i < ts.length) (hj : j < ts.length) : (swap ts i j).Perm ts := by
  have h1 := set_perm ts i (get ts j) hi
  have h2 := set_perm (ts.set i (get ts j)) j (get ts i) (by simpa using hj)
  rw [lget_set _ _ _ _ hi] at h2
  have e : (if i = j then get ts j else get ts j) = get ts j := by split <;> rfl
  rw [e] at h2
  have h3 := h2.trans h1
  exact (List.perm_cons _).1 h3
/-- A heap's order, among the first n, for parents from lo on. -/
def Ord (ts : List T) (lo n : Nat) : Prop := ∀ c : Nat, 0 < c → c < n → lo ≤ (c - 1) / 2 → lt (get ts c) (get ts ((c - 1) / 2)) = false
/-- The same, but for one parent, whose own parent stands ahead of its children. -/
structure But (ts : List T) (lo n i : Nat) : Prop where
  ord : ∀ c : Nat, 0 < c → c < n → lo ≤ (c - 1) / 2 → (c - 1) / 2 ≠ i → lt (get ts c) (get ts ((c - 1) / 2)) = false
  grand : ∀ c : Nat, 0 < c → c < n → (c - 1) / 2 = i → 0 < i → lo ≤ (i - 1) / 2 → lt (get ts c) (get ts ((i - 1) / 2)) = false
theorem child_is (ts : List T) (i n : Nat) (h : 2 * i + 1 < n) : child ts i n < n ∧ 0 < child ts i n ∧ (child ts i n - 1) / 2 = i ∧ ∀ c, 0 < c → c < n → (c - 1) / 2 = i → lt (get ts c) (get ts (child ts i n)) = false := by
  unfold child
  by_cases hc : 2 * i + 2 < n ∧ lt (get ts (2 * i + 2)) (get ts (2 * i + 1)) = true
  · rw [if_pos hc]
    refine ⟨hc.1, by omega, by omega, fun c h0 h1 h2 => ?_⟩
    have : c = 2 * i + 1 ∨ c = 2 * i + 2 := by omega
    rcases this with e | e
    · subst e; exact lt_asymm hc.2
    · subst e; exact lt_irrefl _
  · rw [if_neg hc]
    refine ⟨h, by omega, by omega, fun c h0 h1 h2 => ?_⟩
    have : c = 2 * i + 1 ∨ c = 2 * i + 2 := by omega
    rcases this with e | e
    · subst e; exact lt_irrefl _
    · subst e
      cases hl : lt (get ts (2 * i + 2)) (get ts (2 * i + 1)) with
      | false => rfl
      | true => exact absurd ⟨h1, hl⟩ hc
theorem But.done {ts : List T} {lo n i : Nat} (h : But ts lo n i) (hs : ∀ c, 0 < c → c < n → (c - 1) / 2 = i → lt (get ts c) (get ts i) = false) : Ord ts lo n := fun c h0 h1 h2 => by
  by_cases e : (c - 1) / 2 = i
  · rw [e]; exact hs c h0 h1 e
  · exact h.ord c h0 h1 h2 e
theorem But.step {ts : List T} {lo n i j : Nat} (h : But ts lo n i) (hn : n ≤ ts.length) (hi : lo ≤ i) (hj : j < n) (hj0 : 0 < j) (hp : (j - 1) / 2 = i) (hmin : ∀ c, 0 < c → c < n → (c - 1) / 2 = i → lt (get ts c) (get ts j) = false) (hl : lt (get ts j) (get ts i) = true) : But (swap ts i j) lo n j := by
  have hij : i < j := by omega
  have G : ∀ q, get (swap ts i j) q = if j = q then get ts i else if i = q then get ts j else get ts q := fun q => lget_swap ts i j q (by omega) (by omega)
  refine ⟨fun c h0 h1 h2 h3 => ?_, fun c h0 h1 h2 h3 h4 => ?_⟩
  · rw [G, G, if_neg (show ¬ j = (c - 1) / 2 from fun e => h3 e.symm)]
    by_cases e1 : j = c
    · subst e1
      rw [if_pos rfl, if_pos hp.symm]
      exact le_of_lt hl
    · rw [if_neg e1]
      by_cases e2 : i = c
      · subst e2
        rw [if_pos rfl, if_neg (by omega)]
        exact h.grand j hj0 hj hp h0 h2
      · rw [if_neg e2]
        by_cases e3 : i = (c - 1) / 2
        · rw [if_pos e3]
          exact hmin c h0 h1 e3.symm
        · rw [if_neg e3]
          exact h.ord c h0 h1 h2 (fun e => e3 e.symm)
  · rw [G, G, if_neg (show ¬ j = c by omega), if_neg (show ¬ i = c by omega), hp, if_neg (show ¬ j = i by omega), if_pos rfl]
    have h5 := h.ord c h0 h1 (by omega) (by omega)
    rw [h2] at h5
    exact h5
theorem down_is : ∀ (k : Nat) (ts : List T) (lo i n : Nat), n ≤ ts.length → lo ≤ i → n ≤ k + i → But ts lo n i → Ord (down k ts i n) lo n ∧ (down k ts i n).Perm ts ∧ ∀ q, n ≤ q → get (down k ts i n) q = get ts q
  | 0, ts, lo, i, n, hn, hi, hk, h => ⟨h.done fun c h0 h1 h2 => by omega, List.Perm.refl _, fun q _ => rfl⟩
  | k + 1, ts, lo, i, n, hn, hi, hk, h => by
    unfold down
    by_cases h1 : 2 * i + 1 < n
    · rw [if_pos h1]
      obtain ⟨c1, c2, c3, c4⟩ := child_is ts i n h1
      cases hl : lt (get ts (child ts i n)) (get ts i) with
      | true =>
        rw [if_pos rfl]
        obtain ⟨d1, d2, d3⟩ := down_is k (swap ts i (child ts i n)) lo (child ts i n) n (by rw [swap_length]; exact hn) (by omega) (by omega) (h.step hn hi c1 c2 c3 c4 hl)
        refine ⟨d1, d2.trans (swap_perm _ _ _ (by omega) (by omega)), fun q hq => ?_⟩
        rw [d3 q hq, lget_swap _ _ _ _ (by omega) (by omega), if_neg (by omega), if_neg (by omega)]
      | false =>
        rw [if_neg (by decide)]
        exact ⟨h.done fun c h0 h1 h2 => le_trans hl (c4 c h0 h1 h2), List.Perm.refl _, fun q _ => rfl⟩
    · rw [if_neg h1]
      exact ⟨h.done fun c h0 h1 h2 => by omega, List.Perm.refl _, fun q _ => rfl⟩
theorem initFrom_is : ∀ (i : Nat) (ts : List T), Ord ts i ts.length → Ord (initFrom ts ts.length i) 0 ts.length ∧ (initFrom ts ts.length i).Perm ts
  | 0, ts, h => ⟨h, List.Perm.refl _⟩
  | i + 1, ts, h => by
    unfold initFrom
    have hb : But ts i ts.length i := ⟨fun c h0 h1 h2 h3 => h c h0 h1 (by omega), fun c h0 h1 h2 h3 h4 => by omega⟩
    obtain ⟨d1, d2, d3⟩ := down_is ts.length ts i i ts.length (Nat.le_refl _) (Nat.le_refl _) (by omega) hb
    have hl := down_length ts.length ts i ts.length
    have := initFrom_is i (down ts.length ts i ts.length) (by rw [hl]; exact d1)
    rw [hl] at this
    exact ⟨this.1, this.2.trans d2⟩
/-- A heap: no child is less than its parent. -/
def Heap (ts : List T) : Prop := Ord ts 0 ts.length
theorem init_is (ts : List T) : Heap (init ts) ∧ (init ts).Perm ts := by
  unfold init
  have h := initFrom_is (ts.length / 2) ts (fun c h0 h1 h2 => by omega)
  exact ⟨by unfold Heap; rw [h.2.length_eq]; exact h.1, h.2⟩
theorem Heap.least {ts : List T} (h : Heap ts) : ∀ i, i < ts.length → lt (get ts i) (get ts 0) = false := by
  intro i
  induction i using Nat.strongRecOn with
  | _ i ih =>
    intro hi
    by_cases e : i = 0
    · subst e; exact lt_irrefl _
    · exact le_trans (ih ((i - 1) / 2) (by omega) (by omega)) (h i (by omega) hi (by omega))
theorem perm_last {ts us : List T} (h : us.Perm ts) (h0 : 0 < ts.length) : (get us (ts.length - 1) :: us.take (ts.length - 1)).Perm ts := by
  have hl := h.length_eq
  have e : us = us.take (ts.length - 1) ++ [get us (ts.length - 1)] := by
    have h1 : us.drop (ts.length - 1) = [get us (ts.length - 1)] := by
      rw [List.drop_eq_getElem_cons (by omega), List.drop_eq_nil_of_le (by omega)]
      unfold get
      rw [List.getD_eq_getElem?_getD, List.getElem?_eq_getElem (by omega)]
      rfl
    rw [← h1, List.take_append_drop]
  have h2 : (get us (ts.length - 1) :: us.take (ts.length - 1)).Perm (us.take (ts.length - 1) ++ [get us (ts.length - 1)]) := (List.perm_append_singleton _ _).symm
  rw [← e] at h2
  exact h2.trans h
/-- Pop gives the least one; what is left is a heap of the others. -/
theorem pop_is (ts : List T) (h : Heap ts) (h0 : 0 < ts.length) : Heap (pop ts).2 ∧ ((pop ts).1 :: (pop ts).2).Perm ts ∧ (∀ x ∈ ts, lt x (pop ts).1 = false) ∧ (pop ts).2.length = ts.length - 1 := by
  have hs : ∀ q, get (swap ts 0 (ts.length - 1)) q = if ts.length - 1 = q then get ts 0 else if 0 = q then get ts (ts.length - 1) else get ts q := fun q => lget_swap ts 0 (ts.length - 1) q h0 (by omega)
  have hb : But (swap ts 0 (ts.length - 1)) 0 (ts.length - 1) 0 := ⟨fun c c0 c1 c2 c3 => by
    rw [hs, hs, if_neg (by omega), if_neg (by omega), if_neg (by omega), if_neg (by omega)]
    exact h c c0 (by omega) c2, fun c c0 c1 c2 c3 => absurd c3 (by omega)⟩
  obtain ⟨d1, d2, d3⟩ := down_is ts.length _ 0 0 (ts.length - 1) (by rw [swap_length]; omega) (Nat.le_refl _) (by omega) hb
  have d4 := d2.trans (swap_perm ts 0 (ts.length - 1) h0 (by omega))
  have e1 : (pop ts).1 = get ts 0 := by
    unfold pop
    rw [d3 _ (Nat.le_refl _), hs, if_pos rfl]
  have hlen : (pop ts).2.length = ts.length - 1 := by unfold pop; simp only []; rw [List.length_take, d4.length_eq]; omega
  refine ⟨?_, ?_, fun x hx => ?_, hlen⟩
  · unfold Heap
    rw [hlen]
    intro c c0 c1 c2
    have G : ∀ q, q < ts.length - 1 → get (pop ts).2 q = get (down ts.length (swap ts 0 (ts.length - 1)) 0 (ts.length - 1)) q := fun q hq => by
      unfold pop get
      simp only []
      rw [List.getD_eq_getElem?_getD, List.getElem?_take, if_pos hq, List.getD_eq_getElem?_getD]
    rw [G _ c1, G _ (by omega)]
    exact d1 c c0 c1 c2
  · exact perm_last d4 h0
  · rw [e1]
    obtain ⟨i, hi, e⟩ := mem_get hx
    rw [← e]
    exact h.least i hi
/-- The order, but for one child. -/
structure Upw (ts : List T) (j : Nat) : Prop where
  ord : ∀ c : Nat, 0 < c → c < ts.length → c ≠ j → lt (get ts c) (get ts ((c - 1) / 2)) = false
  grand : ∀ c : Nat, 0 < c → c < ts.length → (c - 1) / 2 = j → 0 < j → lt (get ts c) (get ts ((j - 1) / 2)) = false
theorem up_is : ∀ (k : Nat) (ts : List T) (j : Nat), j < ts.length → j < k → Upw ts j → Heap (up k ts j) ∧ (up k ts j).Perm ts
  | 0, ts, j, hj, hk, h => by omega
  | k + 1, ts, j, hj, hk, h => by
    unfold up
    by_cases h1 : (j - 1) / 2 = j
    · rw [if_pos h1]
      exact ⟨fun c c0 c1 c2 => h.ord c c0 c1 (by omega), List.Perm.refl _⟩
    · rw [if_neg h1]
      have hp : (j - 1) / 2 < j := by omega
      have G : ∀ q, get (swap ts ((j - 1) / 2) j) q = if j = q then get ts ((j - 1) / 2) else if (j - 1) / 2 = q then get ts j else get ts q := fun q => lget_swap ts ((j - 1) / 2) j q (by omega) hj
      cases hl : lt (get ts j) (get ts ((j - 1) / 2)) with
      | true =>
        rw [if_pos rfl]
        obtain ⟨d1, d2⟩ := up_is k (swap ts ((j - 1) / 2) j) ((j - 1) / 2) (by rw [swap_length]; omega) (by omega) ⟨fun c c0 c1 c2 => by
          rw [swap_length] at c1
          rw [G, G]
          by_cases e1 : j = c
          · subst e1
            rw [if_pos rfl, if_neg (by omega), if_pos rfl]
            exact le_of_lt hl
          · rw [if_neg e1, if_neg (fun e => c2 e.symm)]
            by_cases e2 : j = (c - 1) / 2
            · rw [if_pos e2]
              exact h.grand c c0 c1 e2.symm (by omega)
            · rw [if_neg e2]
              by_cases e3 : (j - 1) / 2 = (c - 1) / 2
              · rw [if_pos e3]
                have := h.ord c c0 c1 (fun e => e1 e.symm)
                rw [← e3] at this
                exact le_trans (le_of_lt hl) this
              · rw [if_neg e3]
                exact h.ord c c0 c1 (fun e => e1 e.symm), fun c c0 c1 c2 c3 => by
          rw [swap_length] at c1
          have h3 := h.ord ((j - 1) / 2) c3 (by omega) (by omega)
          rw [G, G]
          by_cases e1 : j = c
          · rw [if_pos e1, if_neg (by omega), if_neg (by omega)]
            exact h3
          · rw [if_neg e1, if_neg (by omega), if_neg (by omega), if_neg (by omega)]
            have := h.ord c c0 c1 (fun e => e1 e.symm)
            rw [c2] at this
            exact le_trans h3 this⟩
        exact ⟨d1, d2.trans (swap_perm _ _ _ (by omega) hj)⟩
      | false =>
        rw [if_neg (by decide)]
        refine ⟨fun c c0 c1 c2 => ?_, List.Perm.refl _⟩
        by_cases e : c = j
        · subst e; exact hl
        · exact h.ord c c0 c1 e
theorem push_is (ts : List T) (t : T) (h : Heap ts) : Heap (push ts t) ∧ (push ts t).Perm (t :: ts) := by
  have hl : (ts ++ [t]).length = ts.length + 1 := by simp
  have G : ∀ q, q < ts.length → get (ts ++ [t]) q = get ts q := fun q hq => by
    unfold get
    rw [List.getD_eq_getElem?_getD, List.getElem?_append_left hq, List.getD_eq_getElem?_getD]
  obtain ⟨d1, d2⟩ := up_is (ts.length + 1) (ts ++ [t]) ts.length (by omega) (by omega) ⟨fun c c0 c1 c2 => by
    rw [G c (by omega), G _ (by omega)]
    exact h c c0 (by omega) (by omega), fun c c0 c1 c2 c3 => by omega⟩
  exact ⟨d1, d2.trans (List.perm_append_singleton _ _)⟩
end Go.Proofs.Ytbifignggnfodaa.HeapM
