/- No archive is a beginning of another one. No program in sight. -/
import Derived.Test.YtneogampbohfnaaDoorZipU
namespace Go.Proofs.YtneogampbohfnaaDoor.ZipW
open Go.RowKit Go.Proofs.YtneogampbohfnaaDoorW.PrintWords Go.Proofs.YtneogampbohfnaaDoorW.PrintLast Go.Proofs.YtneogampbohfnaaDoorW.PrintMore Go.Proofs.YtneogampbohfnaaDoor.ZB
set_option linter.unusedVariables false
theorem behind_starts (xs : List S39) : ∀ i, ∃ r, behindTo xs (i + 1) = (⟨#[80, 75, 1, 2]⟩ : ByteArray) ++ r
  | 0 => ⟨numsB 2 [20] ++ commonB (rd_T39 xs ((0 : Nat) : Int)) ++ numsB 2 [0, 0, 0] ++ numsB 4 [0, ((frontTo xs 0).size : Int)] ++ namesB (rd_T39 xs ((0 : Nat) : Int)), by
    rw [behindTo, behindTo, nil_app]
    simp only [app_assoc]⟩
  | i + 1 => by
    obtain ⟨r, h⟩ := behind_starts xs i
    exact ⟨r ++ ⟨#[80, 75, 1, 2]⟩ ++ numsB 2 [20] ++ commonB (rd_T39 xs ((i + 1 : Nat) : Int)) ++ numsB 2 [0, 0, 0] ++ numsB 4 [0, ((frontTo xs (i + 1)).size : Int)] ++ namesB (rd_T39 xs ((i + 1 : Nat) : Int)), by
      rw [behindTo, h]
      simp only [app_assoc]⟩
/-- What stands behind the parts in front begins otherwise than these. -/
theorem end_starts (xs : List S39) : ∃ p r, endB xs = p ++ r ∧ p.size = 4 ∧ p ≠ (⟨#[80, 75, 3, 4]⟩ : ByteArray) := by
  unfold endB
  cases h : xs.length with
  | zero => exact ⟨_, _, nil_app _, rfl, fun e => by injection e with e1; exact absurd e1 (by decide)⟩
  | succ n =>
    obtain ⟨r, hr⟩ := behind_starts xs n
    rw [hr, app_assoc]
    exact ⟨_, _, rfl, rfl, fun e => by injection e with e1; exact absurd e1 (by decide)⟩
theorem part_starts (x : S39) : ∃ r, partF x = (⟨#[80, 75, 3, 4]⟩ : ByteArray) ++ r := ⟨commonB x ++ (namesB x ++ x.f6), by unfold partF; simp only [app_assoc]⟩
theorem not_both (x : S39) (ys : List S39) (r s : ByteArray) : partF x ++ r ≠ endB ys ++ s := fun h => by
  obtain ⟨p, u, h1, h2, h3⟩ := end_starts ys
  obtain ⟨v, h4⟩ := part_starts x
  rw [h1, h4, app_assoc, app_assoc] at h
  exact h3 (app_inj h (by rw [h2]; rfl)).1.symm
theorem zip_pre {xs ys : List S39} (hx : mayL xs = true) (hy : mayL ys = true) {r : ByteArray} (h : zipL xs = zipL ys ++ r) : xs = ys := by
  have key : ∀ i, i ≤ xs.length → i ≤ ys.length → frontTo xs i = frontTo ys i ∧ ∀ j, j < i → rd_T39 xs (j : Int) = rd_T39 ys (j : Int) := by
    intro i
    induction i with
    | zero => exact fun _ _ => ⟨rfl, fun j hj => absurd hj (Nat.not_lt_zero j)⟩
    | succ i ih =>
      intro hi hi'
      obtain ⟨h1, h2⟩ := ih (by omega) (by omega)
      obtain ⟨u, hu⟩ := zipL_cut xs (i + 1) hi
      obtain ⟨s, hs⟩ := zipL_cut ys (i + 1) hi'
      rw [front_next, app_assoc] at hu hs
      rw [hu, hs, app_assoc, app_assoc] at h
      have h3 := (app_inj h (by rw [h1])).2
      have h4 := part_inj (fit_of hx i (by omega)) (fit_of hy i (by omega)) h3
      refine ⟨by rw [front_next, front_next, h1, h4.1], fun j hj => ?_⟩
      rcases Nat.lt_or_ge j i with h5 | h5
      · exact h2 j h5
      · rw [show j = i from by omega]; exact h4.1
  rcases Nat.lt_trichotomy xs.length ys.length with hn | hn | hn
  · obtain ⟨h1, _⟩ := key xs.length (Nat.le_refl _) (by omega)
    obtain ⟨s, hs⟩ := zipL_cut ys (xs.length + 1) hn
    rw [front_next, app_assoc] at hs
    rw [zipL_parts, hs, app_assoc] at h
    have h3 := (app_inj h (by rw [h1])).2
    rw [app_assoc] at h3
    exact absurd (show partF (rd_T39 ys (xs.length : Int)) ++ (s ++ r) = endB xs ++ (⟨#[]⟩ : ByteArray) from by rw [app_nil]; exact h3.symm) (not_both _ _ _ _)
  · have hk := (key xs.length (Nat.le_refl _) (by omega)).2
    refine List.ext_getElem hn fun j h1 h2 => ?_
    have := hk j h1
    unfold rd_T39 at this
    rw [Int.toNat_natCast, List.getD_eq_getElem?_getD, List.getD_eq_getElem?_getD, List.getElem?_eq_getElem h1, List.getElem?_eq_getElem h2] at this
    exact this
  · obtain ⟨h1, _⟩ := key ys.length (by omega) (Nat.le_refl _)
    obtain ⟨s, hs⟩ := zipL_cut xs (ys.length + 1) hn
    rw [front_next, app_assoc] at hs
    rw [zipL_parts ys, hs, app_assoc] at h
    have h3 := (app_inj h (by rw [h1])).2
    exact absurd h3 (not_both _ _ _ _)
theorem cut_join (s : ByteArray) (k : Nat) (hk : k ≤ s.size) : s = s.extract 0 k ++ s.extract k s.size := by
  apply Go.WideShapes.bytes_inj
  rw [ByteArray.data_append, Array.toList_append, ByteArray.data_extract, ByteArray.data_extract, Array.toList_extract, Array.toList_extract, List.extract_eq_take_drop, List.extract_eq_take_drop, List.drop_zero, Nat.sub_zero]
  have e : s.data.toList.length = s.size := by rw [Array.length_toList]; rfl
  rw [List.take_of_length_le (l := List.drop k s.data.toList) (by rw [List.length_drop, e]; omega), List.take_append_drop]
theorem ext_app (a b : ByteArray) : (a ++ b).extract 0 a.size = a ∧ (a ++ b).extract a.size (a ++ b).size = b := by
  have h := cut_join (a ++ b) a.size (by rw [ByteArray.size_append]; omega)
  have := app_inj h (by rw [ByteArray.size_extract, ByteArray.size_append]; omega)
  exact ⟨this.1.symm, this.2.symm⟩
end Go.Proofs.YtneogampbohfnaaDoor.ZipW
