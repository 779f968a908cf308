/- Lengths by counts, on: the counts are halved till no length is above the bound. No program in sight. -/
import Derived.Test.YtbifignggnfodaaHeapO
namespace Go.Proofs.Ytbifignggnfodaa.HeapM
set_option linter.unusedVariables false
set_option linter.unusedSimpArgs false
def halves : Nat → List Int → List Int
  | 0, cs => cs
  | k + 1, cs => halves k (half cs)
def within (out : List Int) (most : Int) : Bool := out.all fun x => decide (x ≤ most)
def search : Nat → List Int → Int → List Int
  | 0, _, _ => []
  | k + 1, cs, most => if within (deepM cs) most = true then deepM cs else search k (half cs) most
/-- The counts, one more if just one is. -/
def own (cs : List Int) : List Int := if used cs = 1 then cs.set (cs.findIdx fun n => decide (n = 0)) 1 else cs
def mayBe (cs : List Int) (most : Int) : Bool := decide (2 ≤ cs.length) && decide (cs.length ≤ 288) && cs.all (fun n => decide (0 ≤ n) && decide (n ≤ 2147483647)) && decide (1 ≤ most) && decide (most ≤ 15) && decide (used cs ≤ 2 ^ most.toNat)
def lengths (cs : List Int) (most : Int) : List Int := search 33 (own cs) most
theorem half_length (cs : List Int) : (half cs).length = cs.length := by unfold half; simp
theorem half_getD (cs : List Int) (q : Nat) : (half cs).getD q 0 = (cs.getD q 0 + 1) / 2 := by
  unfold half
  rw [List.getD_eq_getElem?_getD, List.getElem?_map, List.getD_eq_getElem?_getD]
  cases cs[q]? <;> rfl
theorem half_used (cs : List Int) : used (half cs) = used cs := by
  unfold used half
  rw [List.filter_map, List.length_map]
  congr 2
  funext n
  simp only [Function.comp, decide_eq_decide]
  omega
theorem halves_length : ∀ (k : Nat) (cs : List Int), (halves k cs).length = cs.length
  | 0, _ => rfl
  | k + 1, cs => by unfold halves; rw [halves_length k, half_length]
theorem halves_used : ∀ (k : Nat) (cs : List Int), used (halves k cs) = used cs
  | 0, _ => rfl
  | k + 1, cs => by unfold halves; rw [halves_used k, half_used]
theorem halves_pos : ∀ (k : Nat) (cs : List Int) (q : Nat), 0 < (halves k cs).getD q 0 ↔ 0 < cs.getD q 0
  | 0, _, _ => Iff.rfl
  | k + 1, cs, q => by unfold halves; rw [halves_pos k, half_getD]; omega
theorem within_iff (out : List Int) (most : Int) : within out most = true ↔ ∀ s : Int, 0 ≤ s → s < out.length → o out s ≤ most := by
  unfold within
  rw [List.all_eq_true]
  constructor
  · intro h s h0 h1
    unfold o
    rw [List.getD_eq_getElem?_getD, List.getElem?_eq_getElem (by omega)]
    exact of_decide_eq_true (h _ (List.getElem_mem _))
  · intro h x hx
    obtain ⟨i, hi, e⟩ := List.getElem_of_mem hx
    have := h i (by omega) (by omega)
    unfold o at this
    rw [Int.toNat_natCast, List.getD_eq_getElem?_getD, List.getElem?_eq_getElem hi, ← e] at *
    exact decide_eq_true this
theorem search_is (most : Nat) : ∀ (k : Nat) (cs : List Int), (∀ q, cs.getD q 0 ≤ 2 ^ k) → used cs ≤ 2 ^ most → ∃ j, j ≤ k ∧ search (k + 1) cs most = deepM (halves j cs) ∧ within (deepM (halves j cs)) most = true
  | 0, cs, hb, hm => by
    have h := deep_ones cs most (fun q => hb q) hm
    have hw : within (deepM cs) most = true := (within_iff _ _).2 fun s h0 _ => h s h0
    refine ⟨0, Nat.le_refl _, ?_, hw⟩
    rw [search, if_pos hw]
    rfl
  | k + 1, cs, hb, hm => by
    rw [search]
    by_cases hw : within (deepM cs) most = true
    · rw [if_pos hw]
      exact ⟨0, by omega, rfl, hw⟩
    · rw [if_neg hw]
      obtain ⟨j, h1, h2, h3⟩ := search_is most k (half cs) (fun q => by
        have := hb q
        rw [Int.pow_succ] at this
        rw [half_getD]
        generalize (2 : Int) ^ k = A at this ⊢
        omega) (by rw [half_used]; exact hm)
      exact ⟨j + 1, by omega, h2, h3⟩
/-- Behind so many halvings none is above the bound. -/
theorem search_ends (most : Nat) (cs : List Int) (hb : ∀ q, cs.getD q 0 ≤ 2147483647) (hm : used cs ≤ 2 ^ most) : ∃ j, j ≤ 32 ∧ search 33 cs most = deepM (halves j cs) ∧ within (deepM (halves j cs)) most = true :=
  search_is most 32 cs (fun q => by have := hb q; have : (2 : Int) ^ 32 = 4294967296 := by decide
                                    omega) hm
theorem own_length (cs : List Int) : (own cs).length = cs.length := by unfold own; split <;> simp
theorem getD_set' (cs : List Int) (i q : Nat) (x : Int) (hi : i < cs.length) : (cs.set i x).getD q 0 = if i = q then x else cs.getD q 0 := by
  rw [List.getD_eq_getElem?_getD, List.getElem?_set]
  by_cases e : i = q
  · rw [if_pos e, if_pos e, if_pos hi]; rfl
  · rw [if_neg e, if_neg e, List.getD_eq_getElem?_getD]
theorem used_set : ∀ (cs : List Int) (i : Nat), i < cs.length → ¬ 0 < cs.getD i 0 → used (cs.set i 1) = used cs + 1
  | [], i, h, _ => by simp at h
  | c :: cs, 0, _, h => by
    have hc : ¬ 0 < c := h
    unfold used
    rw [List.set_cons_zero, List.filter_cons_of_pos (by decide), List.filter_cons_of_neg (by simpa using hc), List.length_cons]
  | c :: cs, i + 1, h, h2 => by
    have ih := used_set cs i (by simpa using h) (by simpa using h2)
    unfold used at ih ⊢
    rw [List.set_cons_succ]
    by_cases hc : 0 < c
    · rw [List.filter_cons_of_pos (by simpa using hc), List.filter_cons_of_pos (by simpa using hc), List.length_cons, List.length_cons, ih]
    · rw [List.filter_cons_of_neg (by simpa using hc), List.filter_cons_of_neg (by simpa using hc), ih]
/-- If one is used, of two and more, another one is 0. -/
theorem used_all : ∀ (cs : List Int), (∀ c ∈ cs, 0 < c) → used cs = cs.length
  | [], _ => rfl
  | c :: cs, h => by
    have := used_all cs fun x hx => h x (List.mem_cons_of_mem _ hx)
    unfold used at this ⊢
    rw [List.filter_cons_of_pos (by simpa using h c (by simp)), List.length_cons, this, List.length_cons]
theorem zero_in (cs : List Int) (h0 : ∀ c ∈ cs, 0 ≤ c) (hu : used cs < cs.length) : (cs.findIdx fun n => decide (n = 0)) < cs.length := by
  refine List.findIdx_lt_length_of_exists ?_
  apply Classical.byContradiction
  intro hn
  have := used_all cs fun c hc => by
    have h1 := h0 c hc
    rcases Int.lt_or_eq_of_le h1 with q | q
    · exact q
    · exact absurd ⟨c, hc, by simp [q]⟩ hn
  omega
structure Ownd (cs : List Int) : Prop where
  ge : ∀ q, 0 ≤ (own cs).getD q 0
  le : ∀ q, (own cs).getD q 0 ≤ 2147483647
  pos : ∀ q : Nat, 0 < cs.getD q 0 → 0 < (own cs).getD q 0
  us : used (own cs) = if used cs = 1 then 2 else used cs
theorem own_is (cs : List Int) (h2 : 2 ≤ cs.length) (h : ∀ c ∈ cs, 0 ≤ c ∧ c ≤ 2147483647) : Ownd cs := by
  have hg : ∀ q, 0 ≤ cs.getD q 0 ∧ cs.getD q 0 ≤ 2147483647 := fun q => by
    rw [List.getD_eq_getElem?_getD]
    cases hq : cs[q]? with
    | none => decide
    | some x => exact h x (List.mem_of_getElem? hq)
  by_cases hu : used cs = 1
  · have hz := zero_in cs (fun c hc => (h c hc).1) (by omega)
    have h0 : ¬ 0 < cs.getD (cs.findIdx fun n => decide (n = 0)) 0 := by
      have := List.findIdx_getElem (w := hz)
      rw [List.getD_eq_getElem?_getD, List.getElem?_eq_getElem hz]
      have e : cs[cs.findIdx fun n => decide (n = 0)] = 0 := of_decide_eq_true this
      rw [e]
      decide
    have e : own cs = cs.set (cs.findIdx fun n => decide (n = 0)) 1 := by unfold own; rw [if_pos hu]
    refine ⟨fun q => ?_, fun q => ?_, fun q hq => ?_, ?_⟩
    · rw [e, getD_set' _ _ _ _ hz]; split
      · decide
      · exact (hg q).1
    · rw [e, getD_set' _ _ _ _ hz]; split
      · decide
      · exact (hg q).2
    · rw [e, getD_set' _ _ _ _ hz]; split
      · decide
      · exact hq
    · rw [e, used_set _ _ hz h0, if_pos hu, hu]
  · have e : own cs = cs := by unfold own; rw [if_neg hu]
    refine ⟨fun q => by rw [e]; exact (hg q).1, fun q => by rw [e]; exact (hg q).2, fun q hq => by rw [e]; exact hq, by rw [e, if_neg hu]⟩
end Go.Proofs.Ytbifignggnfodaa.HeapM
