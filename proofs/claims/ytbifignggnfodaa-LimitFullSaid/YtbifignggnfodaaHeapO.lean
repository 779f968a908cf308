/- Lengths by counts, on: where the rounds begin; equal weights stand at nearly equal depths; the halving ends. No program in sight. -/
import Derived.Test.YtbifignggnfodaaHeapN
namespace Go.Proofs.Ytbifignggnfodaa.HeapM
set_option linter.unusedVariables false
set_option linter.unusedSimpArgs false
theorem start_length : ∀ (i : Nat) (cs : List Int), (start i cs).length = used cs
  | _, [] => rfl
  | i, c :: cs => by
    have ih := start_length (i + 1) cs
    unfold start used
    unfold used at ih
    by_cases h : 0 < c
    · rw [if_pos h, List.filter_cons_of_pos (by simpa using h), List.length_cons, List.length_cons, ih]
    · rw [if_neg h, List.filter_cons_of_neg (by simpa using h), ih]
theorem start_mem : ∀ (i : Nat) (cs : List Int) (t : T), t ∈ start i cs → ∃ q, q < cs.length ∧ t = ⟨cs.getD q 0, ((i + q : Nat) : Int), [((i + q : Nat) : Int)]⟩ ∧ 0 < cs.getD q 0
  | _, [], t, h => by cases h
  | i, c :: cs, t, h => by
    unfold start at h
    have step : t ∈ start (i + 1) cs → ∃ q, q < (c :: cs).length ∧ t = ⟨(c :: cs).getD q 0, ((i + q : Nat) : Int), [((i + q : Nat) : Int)]⟩ ∧ 0 < (c :: cs).getD q 0 := fun h => by
      obtain ⟨q, h1, h2, h3⟩ := start_mem (i + 1) cs t h
      refine ⟨q + 1, by simpa using h1, ?_, by simpa using h3⟩
      rw [h2, List.getD_cons_succ, show i + 1 + q = i + (q + 1) by omega]
    by_cases hc : 0 < c
    · rw [if_pos hc] at h
      rcases List.mem_cons.1 h with e | e
      · exact ⟨0, by simp, by rw [e]; rfl, hc⟩
      · exact step e
    · rw [if_neg hc] at h
      exact step h
theorem mem_start : ∀ (i : Nat) (cs : List Int) (q : Nat), q < cs.length → 0 < cs.getD q 0 → ((i + q : Nat) : Int) ∈ syms (start i cs)
  | _, [], q, h, _ => by simp at h
  | i, c :: cs, 0, _, h1 => by
    have hc : 0 < c := h1
    unfold start
    rw [if_pos hc]
    unfold syms
    simp
  | i, c :: cs, q + 1, h, h1 => by
    have ih := mem_start (i + 1) cs q (by simpa using h) (by simpa using h1)
    rw [show i + 1 + q = i + (q + 1) by omega] at ih
    unfold start
    split
    · unfold syms
      exact List.mem_append_right _ ih
    · exact ih
theorem syms_mem (ts : List T) (s : Int) (h : s ∈ syms ts) : ∃ t ∈ ts, s ∈ t.s := by
  induction ts with
  | nil => cases h
  | cons x ts ih =>
    unfold syms at h
    rcases List.mem_append.1 h with e | e
    · exact ⟨x, List.mem_cons_self .., e⟩
    · obtain ⟨t, h1, h2⟩ := ih e
      exact ⟨t, List.mem_cons_of_mem _ h1, h2⟩
theorem start_syms (i : Nat) (cs : List Int) (s : Int) (h : s ∈ syms (start i cs)) : ∃ q, q < cs.length ∧ s = ((i + q : Nat) : Int) ∧ 0 < cs.getD q 0 := by
  obtain ⟨t, h1, h2⟩ := syms_mem _ _ h
  obtain ⟨q, h3, h4, h5⟩ := start_mem i cs t h1
  subst h4
  exact ⟨q, h3, by simpa using h2, h5⟩
theorem start_nodup : ∀ (i : Nat) (cs : List Int), (syms (start i cs)).Nodup ∧ ((start i cs).map (·.m)).Nodup
  | _, [] => by simp [start, syms]
  | i, c :: cs => by
    obtain ⟨h1, h2⟩ := start_nodup (i + 1) cs
    unfold start
    by_cases hc : 0 < c
    · rw [if_pos hc]
      refine ⟨?_, ?_⟩
      · unfold syms
        refine List.nodup_append.2 ⟨by simp, h1, fun a ha b hb e => ?_⟩
        obtain ⟨q, _, h3, _⟩ := start_syms _ _ _ hb
        have : a = (i : Int) := by simpa using ha
        omega
      · rw [List.map_cons]
        refine List.nodup_cons.2 ⟨fun h => ?_, h2⟩
        obtain ⟨t, ht, e⟩ := List.mem_map.1 h
        obtain ⟨q, _, h3, _⟩ := start_mem _ _ _ ht
        subst h3
        have e2 : ((i + 1 + q : Nat) : Int) = (i : Int) := e
        omega
    · rw [if_neg hc]
      exact ⟨h1, h2⟩
theorem o_zeros (L : Nat) (s : Int) : o (List.replicate L 0) s = 0 := by
  unfold o
  rw [List.getD_eq_getElem?_getD, List.getElem?_replicate]
  split <;> rfl
theorem start_G (N : Nat) (cs : List Int) (hN : used cs ≤ N) : G cs.length N (syms (start 0 cs)) (wsum (start 0 cs)) (start 0 cs) cs.length (List.replicate cs.length 0) := by
  refine ⟨fun t ht => ?_, rfl, List.Perm.refl _, by simp, fun s _ => by rw [o_zeros]; decide, fun s _ => by rw [o_zeros, start_length]; omega, fun s _ _ => o_zeros _ _, fun t ht => ?_, fun t ht => ?_, (start_nodup 0 cs).2⟩
  · obtain ⟨q, _, h3, h4⟩ := start_mem _ _ _ ht
    subst h3
    exact h4
  · obtain ⟨q, _, h3, h4⟩ := start_mem _ _ _ ht
    subst h3
    simp only [krf, o_zeros]
    simp
  · obtain ⟨q, h2, h3, h4⟩ := start_mem _ _ _ ht
    subst h3
    show ((0 + q : Nat) : Int) < cs.length
    omega
theorem start_range (cs : List Int) : ∀ s ∈ syms (start 0 cs), 0 ≤ s ∧ s < cs.length := fun s hs => by
  obtain ⟨q, h1, h2, h3⟩ := start_syms _ _ _ hs
  omega
/-- What deep gives. -/
structure Full (N : Nat) (cs out : List Int) : Prop where
  len : out.length = cs.length
  lo : ∀ s, 0 ≤ s → 0 ≤ o out s
  hi : ∀ s, 0 ≤ s → o out s ≤ N
  un : ∀ q : Nat, ¬ 0 < cs.getD q 0 → o out q = 0
  kr : 0 < used cs → krf N out (syms (start 0 cs)) = 2 ^ N
theorem G.full {N : Nat} {cs : List Int} {us : List T} {m : Int} {out : List Int} {S : Int} (g : G cs.length N (syms (start 0 cs)) S us m out) (h1 : us.length ≤ 1) (h2 : us = [] ↔ start 0 cs = []) : Full N cs out := by
  refine ⟨g.len, g.lo, fun s hs => by have := g.hi s hs; omega, fun q hq => g.un q (by omega) fun h => ?_, fun hu => ?_⟩
  · obtain ⟨p, h3, h4, h5⟩ := start_syms _ _ _ h
    have : p = q := by omega
    subst this
    exact hq h5
  · have hl := start_length 0 cs
    match us, h1, h2, g with
    | [], _, h2, _ => rw [h2.1 rfl] at hl; simp at hl; omega
    | [t], _, _, g =>
      have h3 := g.sy
      simp only [syms, List.append_nil] at h3
      rw [← krf_perm N out h3]
      exact g.kr t (by simp)
theorem used_le (cs : List Int) : used cs ≤ cs.length := List.length_filter_le _ _
theorem deep_full (N : Nat) (cs : List Int) (hN : used cs ≤ N) : Full N cs (deepM cs) := by
  have hi := init_is (start 0 cs)
  have g := (start_G N cs hN).perm hi.2
  have hl := start_length 0 cs
  have hul := used_le cs
  obtain ⟨us, m, h1, h2, h3⟩ := rounds_inv (fun ts made out => G cs.length N (syms (start 0 cs)) (wsum (start 0 cs)) ts made out) (fun ts us made out h g => g.perm h) (fun a b ts made out g _ _ => g.step (start_nodup 0 cs).1 (start_range cs)) cs.length (init (start 0 cs)) cs.length (List.replicate cs.length 0) hi.1 (by rw [hi.2.length_eq]; omega) g
  refine G.full h3 h1 (h2.trans ⟨fun h => ?_, fun h => ?_⟩)
  · have := hi.2.length_eq
    rw [h] at this
    exact List.eq_nil_of_length_eq_zero this.symm
  · exact List.eq_nil_of_length_eq_zero (hi.2.length_eq.trans (by rw [h]; rfl))
/-- Weights between 2 to the power of j, and twice that; at most one strictly between. -/
structure Sh (j : Nat) (ts : List T) (out : List Int) : Prop where
  ge : ∀ t ∈ ts, (2 : Int) ^ j ≤ t.w
  le : ∀ t ∈ ts, t.w ≤ 2 * 2 ^ j
  d0 : ∀ t ∈ ts, t.w = 2 ^ j → ∀ s ∈ t.s, o out s ≤ j
  d1 : ∀ t ∈ ts, ∀ s ∈ t.s, o out s ≤ j + 1
  one : (ts.filter fun t => decide ((2 : Int) ^ j < t.w ∧ t.w < 2 * 2 ^ j)).length ≤ 1
theorem Sh.perm {j : Nat} {ts us : List T} {out : List Int} (h : Sh j ts out) (p : us.Perm ts) : Sh j us out :=
  ⟨fun t ht => h.ge t (p.mem_iff.1 ht), fun t ht => h.le t (p.mem_iff.1 ht), fun t ht => h.d0 t (p.mem_iff.1 ht), fun t ht => h.d1 t (p.mem_iff.1 ht), by rw [(p.filter _).length_eq]; exact h.one⟩
theorem le_w {a x : T} (h : lt x a = false) : a.w ≤ x.w := by
  unfold lt at h
  split at h
  · omega
  · simp only [decide_eq_false_iff_not] at h; omega
theorem Sh.step {L N : Nat} {U : List Int} {S : Int} {j : Nat} {a b : T} {ts : List T} {made : Int} {out : List Int} (h : Sh j (a :: b :: ts) out) (g : G L N U S (a :: b :: ts) made out) (hu : U.Nodup) (hr : ∀ s ∈ U, 0 ≤ s ∧ s < L) (ha : ∀ x ∈ a :: b :: ts, lt x a = false) (hb : ∀ x ∈ b :: ts, lt x b = false) : ∃ j', Sh j' (join a b made :: ts) (bump out (a.s ++ b.s)) := by
  obtain ⟨s1, s2, s3⟩ := g.split hu hr
  have hbp := g.bumped hu hr
  have hts : ∀ t ∈ ts, ∀ s ∈ t.s, o (bump out (a.s ++ b.s)) s = o out s := fun t ht s hs => by
    rw [hbp s (hr s (g.sy.mem_iff.1 (mem_syms (List.mem_cons_of_mem _ (List.mem_cons_of_mem _ ht)) hs))).1, if_neg (s3 t ht s hs)]
  have hab : ∀ s, s ∈ a.s ++ b.s → o (bump out (a.s ++ b.s)) s = o out s + 1 := fun s hs => by rw [hbp s (s2 s hs).1, if_pos hs]
  have hA : (0 : Int) < 2 ^ j := Int.pow_pos (by decide)
  have e2 : (2 : Int) ^ (j + 1) = 2 * 2 ^ j := by rw [Int.pow_succ]; omega
  have ma : a ∈ a :: b :: ts := by simp
  have mb : b ∈ a :: b :: ts := by simp
  have mt : ∀ x ∈ ts, x ∈ a :: b :: ts := fun x hx => List.mem_cons_of_mem _ (List.mem_cons_of_mem _ hx)
  have l1 := le_w (ha b mb)
  by_cases hc : a.w = 2 ^ j ∧ b.w = 2 ^ j
  · refine ⟨j, fun t ht => ?_, fun t ht => ?_, fun t ht e s hs => ?_, fun t ht s hs => ?_, ?_⟩
    · rcases List.mem_cons.1 ht with e | e
      · subst e
        show (2 : Int) ^ j ≤ a.w + b.w
        omega
      · exact h.ge t (mt t e)
    · rcases List.mem_cons.1 ht with e | e
      · subst e
        show a.w + b.w ≤ _
        omega
      · exact h.le t (mt t e)
    · rcases List.mem_cons.1 ht with e' | e'
      · subst e'
        exfalso
        have e3 : a.w + b.w = 2 ^ j := e
        omega
      · rw [hts t e' s hs]
        exact h.d0 t (mt t e') e s hs
    · rcases List.mem_cons.1 ht with e' | e'
      · subst e'
        rw [hab s hs]
        rcases List.mem_append.1 hs with q | q
        · have := h.d0 a ma hc.1 s q; omega
        · have := h.d0 b mb hc.2 s q; omega
      · rw [hts t e' s hs]
        exact h.d1 t (mt t e') s hs
    · have h1 := h.one
      rw [List.filter_cons_of_neg (by simp; intro _; show 2 * (2 : Int) ^ j ≤ a.w + b.w; omega)]
      have hsub := (((List.sublist_cons_self b ts).trans (List.sublist_cons_self a (b :: ts))).filter fun t => decide ((2 : Int) ^ j < t.w ∧ t.w < 2 * 2 ^ j)).length_le
      exact Nat.le_trans hsub h1
  · have hbw : (2 : Int) ^ j < b.w := by
      have h1 := h.ge a ma
      have h2 := h.ge b mb
      have := h.le a ma
      rcases Int.lt_or_eq_of_le h2 with q | q
      · exact q
      · exact absurd ⟨by omega, q.symm⟩ hc
    have hx : ∀ x ∈ ts, x.w = 2 * 2 ^ j := fun x hx => by
      have h1 := le_w (hb x (List.mem_cons_of_mem _ hx))
      have h2 := h.le x (mt x hx)
      rcases Int.lt_or_eq_of_le h2 with q | q
      · exfalso
        have h3 := h.one
        have hsub := ((List.sublist_cons_self a (b :: ts)).filter fun t => decide ((2 : Int) ^ j < t.w ∧ t.w < 2 * 2 ^ j)).length_le
        rw [List.filter_cons_of_pos (a := b) (by simp; omega), List.length_cons] at hsub
        have h4 : x ∈ ts.filter fun t => decide ((2 : Int) ^ j < t.w ∧ t.w < 2 * 2 ^ j) := List.mem_filter.2 ⟨hx, by simp; omega⟩
        have := List.length_pos_of_mem h4
        omega
      · exact q
    refine ⟨j + 1, fun t ht => ?_, fun t ht => ?_, fun t ht e s hs => ?_, fun t ht s hs => ?_, ?_⟩
    · rw [e2]
      rcases List.mem_cons.1 ht with e | e
      · subst e
        show _ ≤ a.w + b.w
        have := h.ge a ma
        omega
      · rw [hx t e]; omega
    · rw [e2]
      rcases List.mem_cons.1 ht with e | e
      · subst e
        show a.w + b.w ≤ _
        have := h.le a ma
        have := h.le b mb
        omega
      · rw [hx t e]; omega
    · rw [e2] at e
      rcases List.mem_cons.1 ht with e' | e'
      · subst e'
        exfalso
        have e3 : a.w + b.w = 2 * 2 ^ j := e
        have := h.ge a ma
        omega
      · rw [hts t e' s hs]
        have := h.d1 t (mt t e') s hs
        omega
    · rcases List.mem_cons.1 ht with e' | e'
      · subst e'
        rw [hab s hs]
        rcases List.mem_append.1 hs with q | q
        · have := h.d1 a ma s q; omega
        · have := h.d1 b mb s q; omega
      · rw [hts t e' s hs]
        have := h.d1 t (mt t e') s hs
        omega
    · have hn : ts.filter (fun t => decide ((2 : Int) ^ (j + 1) < t.w ∧ t.w < 2 * 2 ^ (j + 1))) = [] := List.filter_eq_nil_iff.2 fun x hx' => by
        have := hx x hx'
        simp only [decide_eq_true_eq]
        rw [e2]
        omega
      rw [List.filter_cons, hn]
      split <;> simp
theorem ones_start (cs : List Int) (h1 : ∀ q, cs.getD q 0 ≤ 1) : Sh 0 (start 0 cs) (List.replicate cs.length 0) := by
  have hw : ∀ t ∈ start 0 cs, t.w = 1 := fun t ht => by
    obtain ⟨q, _, h3, h4⟩ := start_mem _ _ _ ht
    subst h3
    have := h1 q
    show cs.getD q 0 = 1
    omega
  refine ⟨fun t ht => by rw [hw t ht]; decide, fun t ht => by rw [hw t ht]; decide, fun t _ _ s _ => by rw [o_zeros]; decide, fun t _ s _ => by rw [o_zeros]; decide, ?_⟩
  rw [List.filter_eq_nil_iff.2 fun t ht => by rw [hw t ht]; decide]
  decide
theorem ones_sum (cs : List Int) (h1 : ∀ q, cs.getD q 0 ≤ 1) : wsum (start 0 cs) = used cs := by
  have hw : ∀ t ∈ start 0 cs, t.w = 1 := fun t ht => by
    obtain ⟨q, _, h3, h4⟩ := start_mem _ _ _ ht
    subst h3
    have := h1 q
    show cs.getD q 0 = 1
    omega
  rw [← start_length 0 cs]
  generalize start 0 cs = ts at hw
  induction ts with
  | nil => rfl
  | cons t ts ih =>
    unfold wsum
    rw [ih fun x hx => hw x (List.mem_cons_of_mem _ hx), hw t (by simp), List.length_cons]
    omega
/-- Equal weights stand no deeper than they must. -/
theorem deep_ones (cs : List Int) (most : Nat) (h1 : ∀ q, cs.getD q 0 ≤ 1) (hm : used cs ≤ 2 ^ most) : ∀ s, 0 ≤ s → o (deepM cs) s ≤ most := by
  have hi := init_is (start 0 cs)
  have g := (start_G (used cs) cs (Nat.le_refl _)).perm hi.2
  have hl := start_length 0 cs
  have hul := used_le cs
  obtain ⟨us, m, h2, h3, h4, j, h5⟩ := rounds_inv (fun ts made out => G cs.length (used cs) (syms (start 0 cs)) (wsum (start 0 cs)) ts made out ∧ ∃ j, Sh j ts out) (fun ts us made out h g => ⟨g.1.perm h, let ⟨j, s⟩ := g.2; ⟨j, s.perm h⟩⟩) (fun a b ts made out g ha hb => ⟨g.1.step (start_nodup 0 cs).1 (start_range cs), let ⟨j, s⟩ := g.2; s.step g.1 (start_nodup 0 cs).1 (start_range cs) ha hb⟩) cs.length (init (start 0 cs)) cs.length (List.replicate cs.length 0) hi.1 (by rw [hi.2.length_eq]; omega) ⟨g, 0, (ones_start cs h1).perm hi.2⟩
  intro s hs
  by_cases hU : s ∈ syms (start 0 cs)
  · have h6 := h4.sy.mem_iff.2 hU
    obtain ⟨t, ht, hst⟩ := syms_mem _ _ h6
    have hus : us = [t] := by
      match us, h2, ht with
      | [x], _, ht => rw [List.mem_singleton.1 ht]
    have hw : t.w = (used cs : Int) := by
      have := h4.sum
      rw [hus, ones_sum cs h1] at this
      simpa [wsum] using this
    have h7 := h5.ge t ht
    have hA : ((2 ^ j : Nat) : Int) = (2 : Int) ^ j := by simp
    unfold deepM
    by_cases hj : t.w = 2 ^ j
    · have h8 := h5.d0 t ht hj s hst
      have h9 : 2 ^ j ≤ 2 ^ most := by omega
      have := (Nat.pow_le_pow_iff_right (by decide : 1 < 2)).1 h9
      omega
    · have h8 := h5.d1 t ht s hst
      have h9 : 2 ^ j < 2 ^ most := by omega
      have := (Nat.pow_lt_pow_iff_right (by decide : 1 < 2)).1 h9
      omega
  · have := h4.un s hs hU
    unfold deepM
    omega
end Go.Proofs.Ytbifignggnfodaa.HeapM
