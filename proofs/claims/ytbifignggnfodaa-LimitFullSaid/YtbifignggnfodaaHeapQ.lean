/- Lengths by counts, on: what the lengths are: their codes fill all room, none is above the bound, who comes has one. No program in sight. -/
import Derived.Test.YtbifignggnfodaaHeapP
namespace Go.Proofs.Ytbifignggnfodaa.HeapM
set_option linter.unusedVariables false
set_option linter.unusedSimpArgs false
/-- How much room codes of these lengths take, of 32768. -/
def room : List Int → Nat
  | [] => 0
  | x :: xs => (if 0 < x then 2 ^ (15 - x.toNat) else 0) + room xs
theorem room_is (M : Nat) : ∀ (i : Nat) (cs : List Int) (out : List Int), out.length = i + cs.length → (∀ q, q < cs.length → (0 < cs.getD q 0 ↔ 0 < out.getD (i + q) 0)) → (∀ q, q < cs.length → out.getD (i + q) 0 ≤ 15) → krf (M + 15) out (syms (start i cs)) = 2 ^ M * room (out.drop i)
  | i, [], out, hl, _, _ => by
    rw [List.drop_eq_nil_of_le (by rw [hl]; simp)]
    simp [start, syms, krf, room]
  | i, c :: cs, out, hl, hp, hb => by
    rw [List.length_cons] at hl
    have ih := room_is M (i + 1) cs out (by omega) (fun q hq => by
      have := hp (q + 1) (by simpa using hq)
      rw [List.getD_cons_succ, show i + (q + 1) = i + 1 + q by omega] at this
      exact this) (fun q hq => by
      have := hb (q + 1) (by simpa using hq)
      rw [show i + (q + 1) = i + 1 + q by omega] at this
      exact this)
    have hi : i < out.length := by omega
    have h0 := hp 0 (by simp)
    have h1 := hb 0 (by simp)
    rw [Nat.add_zero] at h0 h1
    have ho : out.getD i 0 = out[i] := by rw [List.getD_eq_getElem?_getD, List.getElem?_eq_getElem hi]; rfl
    rw [List.drop_eq_getElem_cons hi, room, start, ← ho]
    have hc : (c :: cs).getD 0 0 = c := rfl
    rw [hc] at h0
    by_cases hcp : 0 < c
    · have hx := h0.1 hcp
      rw [if_pos hcp, if_pos hx]
      simp only [syms, List.cons_append, List.nil_append, krf]
      rw [ih, Nat.mul_add]
      have : o out (i : Int) = out.getD i 0 := by unfold o; rw [Int.toNat_natCast]
      rw [this]
      have e : M + 15 - (out.getD i 0).toNat = M + (15 - (out.getD i 0).toNat) := by omega
      rw [e, Nat.pow_add]
    · rw [if_neg hcp, if_neg (fun h => hcp (h0.2 h)), ih, Nat.zero_add]
theorem krf_pos (N : Nat) (out : List Int) : ∀ (U : List Int), U ≠ [] → 0 < krf N out U
  | [], h => absurd rfl h
  | s :: U, _ => by
    unfold krf
    have : 0 < 2 ^ (N - (o out s).toNat) := Nat.pow_pos (by decide)
    omega
/-- Of two and more symbols that fill all room, each has a code. -/
theorem krf_one {N : Nat} {out U : List Int} (hk : krf N out U = 2 ^ N) (h2 : 2 ≤ U.length) {s : Int} (hs : s ∈ U) (h0 : 0 ≤ o out s) : 0 < o out s := by
  obtain ⟨A, B, e⟩ := List.append_of_mem hs
  have hp : U.Perm (s :: (A ++ B)) := by rw [e]; exact List.perm_middle
  rw [krf_perm N out hp] at hk
  have hl := hp.length_eq
  have hne : A ++ B ≠ [] := fun h => by rw [h] at hl; simp at hl; omega
  have h1 := krf_pos N out (A ++ B) hne
  unfold krf at hk
  rcases Int.lt_or_eq_of_le h0 with h | h
  · exact h
  · rw [← h] at hk
    simp at hk
    omega
theorem syms_length : ∀ (i : Nat) (cs : List Int), (syms (start i cs)).length = used cs
  | _, [] => rfl
  | i, c :: cs => by
    have ih := syms_length (i + 1) cs
    unfold start used
    unfold used at ih
    by_cases h : 0 < c
    · rw [if_pos h, List.filter_cons_of_pos (by simpa using h), List.length_cons]
      simp only [syms, List.cons_append, List.nil_append, List.length_cons, ih]
    · rw [if_neg h, List.filter_cons_of_neg (by simpa using h), ih]
theorem used_same : ∀ (a b : List Int), a.length = b.length → (∀ q, q < a.length → (0 < a.getD q 0 ↔ 0 < b.getD q 0)) → used a = used b
  | [], [], _, _ => rfl
  | [], _ :: _, h, _ => by simp at h
  | _ :: _, [], h, _ => by simp at h
  | x :: a, y :: b, hl, h => by
    have ih := used_same a b (by simpa using hl) fun q hq => h (q + 1) (by simpa using hq)
    have h0 : 0 < x ↔ 0 < y := h 0 (by simp)
    unfold used at ih ⊢
    by_cases hx : 0 < x
    · rw [List.filter_cons_of_pos (by simpa using hx), List.filter_cons_of_pos (by simpa using h0.1 hx), List.length_cons, List.length_cons, ih]
    · rw [List.filter_cons_of_neg (by simpa using hx), List.filter_cons_of_neg (by simpa using fun h => hx (h0.2 h)), ih]
/-- What the lengths are. -/
structure Good (cs : List Int) (most : Int) (ls : List Int) : Prop where
  len : ls.length = cs.length
  lo : ∀ q : Nat, 0 ≤ ls.getD q 0
  hi : ∀ q : Nat, ls.getD q 0 ≤ most
  pos : ∀ q : Nat, 0 < cs.getD q 0 → 0 < ls.getD q 0
  none_ : used cs = 0 → used ls = 0 ∧ room ls = 0
  full : 0 < used cs → 2 ≤ used ls ∧ room ls = 32768
theorem used_zero : ∀ (xs : List Int), used xs = 0 → room xs = 0
  | [], _ => rfl
  | x :: xs, h => by
    unfold used at h
    by_cases hx : 0 < x
    · rw [List.filter_cons_of_pos (by simpa using hx)] at h
      simp at h
    · rw [List.filter_cons_of_neg (by simpa using hx)] at h
      rw [room, if_neg hx, used_zero xs h]
theorem used_pos {xs : List Int} {q : Nat} (h : 0 < xs.getD q 0) : 0 < used xs := by
  have hq : q < xs.length := by
    rcases Nat.lt_or_ge q xs.length with h1 | h1
    · exact h1
    · rw [List.getD_eq_getElem?_getD, List.getElem?_eq_none h1] at h
      exact absurd h (by decide)
  rw [List.getD_eq_getElem?_getD, List.getElem?_eq_getElem hq] at h
  unfold used
  exact List.length_pos_of_mem (List.mem_filter.2 ⟨List.getElem_mem hq, by simpa using h⟩)
theorem good (cs : List Int) (most : Int) (h2 : 2 ≤ cs.length) (h288 : cs.length ≤ 288) (hc : ∀ c ∈ cs, 0 ≤ c ∧ c ≤ 2147483647) (hm1 : 1 ≤ most) (hm15 : most ≤ 15) (hu : used cs ≤ 2 ^ most.toNat) : Good cs most (lengths cs most) := by
  have ow := own_is cs h2 hc
  have hup : used (own cs) ≤ 2 ^ most.toNat := by
    have := ow.us
    have h7 : 2 ^ 1 ≤ 2 ^ most.toNat := Nat.pow_le_pow_right (by decide) (by omega)
    split at this <;> omega
  obtain ⟨j, hj, hs, hw⟩ := search_ends most.toNat (own cs) ow.le hup
  have hmc : ((most.toNat : Nat) : Int) = most := by omega
  rw [hmc] at hs hw
  have hL : lengths cs most = deepM (halves j (own cs)) := hs
  have hul : used (halves j (own cs)) = used (own cs) := halves_used j (own cs)
  have hlen : (halves j (own cs)).length = cs.length := (halves_length j (own cs)).trans (own_length cs)
  obtain ⟨M, hM⟩ : ∃ M : Nat, M = 285 := ⟨_, rfl⟩
  have F := deep_full (M + 15) (halves j (own cs)) (by have := used_le (own cs); have := own_length cs; omega)
  rw [← hL] at hw F
  have hlo : ∀ q : Nat, 0 ≤ (lengths cs most).getD q 0 := fun q => by
    have := F.lo (q : Int) (by omega)
    unfold o at this
    rw [Int.toNat_natCast] at this
    exact this
  have hhi : ∀ q : Nat, (lengths cs most).getD q 0 ≤ most := fun q => by
    rcases Nat.lt_or_ge q (lengths cs most).length with h1 | h1
    · have := (within_iff _ _).1 hw (q : Int) (by omega) (by omega)
      unfold o at this
      rw [Int.toNat_natCast] at this
      exact this
    · rw [List.getD_eq_getElem?_getD, List.getElem?_eq_none h1]
      show (0 : Int) ≤ most
      omega
  have hun : ∀ q : Nat, ¬ 0 < (halves j (own cs)).getD q 0 → (lengths cs most).getD q 0 = 0 := fun q hq => by
    have := F.un q hq
    unfold o at this
    rw [Int.toNat_natCast] at this
    exact this
  have hps : 2 ≤ used (own cs) → ∀ q : Nat, 0 < (halves j (own cs)).getD q 0 → 0 < (lengths cs most).getD q 0 := fun h2u q hq => by
    have hql : q < (halves j (own cs)).length := by
      rcases Nat.lt_or_ge q (halves j (own cs)).length with h1 | h1
      · exact h1
      · rw [List.getD_eq_getElem?_getD, List.getElem?_eq_none h1] at hq
        exact absurd hq (by decide)
    have hm := mem_start 0 (halves j (own cs)) q hql hq
    rw [Nat.zero_add] at hm
    have := krf_one (F.kr (by omega)) (by rw [syms_length]; omega) hm (F.lo _ (by omega))
    unfold o at this
    rw [Int.toNat_natCast] at this
    exact this
  have hus := ow.us
  refine ⟨F.len.trans hlen, hlo, hhi, fun q hq => ?_, fun h0 => ?_, fun h0 => ?_⟩
  · have h1 := used_pos hq
    exact hps (by split at hus <;> omega) q ((halves_pos j (own cs) q).2 (ow.pos q hq))
  · rw [if_neg (by omega)] at hus
    have hz : used (lengths cs most) = 0 := by
      rcases Nat.eq_zero_or_pos (used (lengths cs most)) with h | h
      · exact h
      · exfalso
        obtain ⟨x, hx⟩ := List.exists_mem_of_length_pos h
        obtain ⟨hx1, hx2⟩ := List.mem_filter.1 hx
        obtain ⟨q, hq, e⟩ := List.getElem_of_mem hx1
        have h1 : (lengths cs most).getD q 0 = x := by rw [List.getD_eq_getElem?_getD, List.getElem?_eq_getElem hq, e]; rfl
        have h2 : 0 < x := by simpa using hx2
        have h3 : ¬ 0 < (halves j (own cs)).getD q 0 := fun hp => by
          have := used_pos hp
          omega
        have := hun q h3
        omega
    exact ⟨hz, used_zero _ hz⟩
  · have h2u : 2 ≤ used (own cs) := by split at hus <;> omega
    have hiff : ∀ q, q < (halves j (own cs)).length → (0 < (halves j (own cs)).getD q 0 ↔ 0 < (lengths cs most).getD q 0) := fun q _ => ⟨hps h2u q, fun h => by
      rcases Int.lt_or_le 0 ((halves j (own cs)).getD q 0) with h1 | h1
      · exact h1
      · have := hun q (by omega)
        omega⟩
    have hr := room_is M 0 (halves j (own cs)) (lengths cs most) (by rw [F.len]; omega) (fun q hq => by rw [Nat.zero_add]; exact hiff q hq) (fun q hq => by rw [Nat.zero_add]; have := hhi q; omega)
    rw [List.drop_zero, F.kr (by omega)] at hr
    refine ⟨?_, ?_⟩
    · rw [← used_same _ _ (F.len.symm) hiff]
      omega
    · have e : (2 : Nat) ^ (M + 15) = 2 ^ M * 32768 := by rw [Nat.pow_add]
      rw [e] at hr
      exact (Nat.eq_of_mul_eq_mul_left (Nat.pow_pos (by decide)) hr).symm
end Go.Proofs.Ytbifignggnfodaa.HeapM
