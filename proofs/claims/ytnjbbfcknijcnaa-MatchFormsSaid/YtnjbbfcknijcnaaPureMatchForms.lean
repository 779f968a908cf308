import Derived.Test.YtnjbbfcknijcnaaMatchRM
import Derived.Test.YtnjbbfcknijcnaaM7
import Derived.Test.YtnjbbfcknijcnaaBits
namespace Go.Proofs.Ytnjbbfcknijcnaa.Pure
set_option linter.unusedVariables false
set_option linter.unusedSimpArgs false
open Go.RowKit Go.Proofs.Ytnjbbfcknijcnaa.M Go.Proofs.YtnjbbfcknijcnaaW.PrintWords Go.Proofs.YtnjbbfcknijcnaaW.PrintLast Go.Proofs.YtnjbbfcknijcnaaW.PrintMore
/-- What 'MatchForms' tries, of d. -/
def bad (d : Int) : List S72 := [⟨-d, 0, 0⟩, ⟨255 + d, 0, 0⟩, ⟨1, 0, d⟩, ⟨0, 2, 1⟩, ⟨0, -d, 1⟩, ⟨0, 258 + d, 1⟩, ⟨0, 3, 0⟩, ⟨0, 3, -d⟩, ⟨0, 3, 1 + d⟩, ⟨d, 3, 1⟩]
theorem bad_k (d : Int) (h1 : 1 ≤ d) (h2 : d ≤ 1024) (i : Nat) (hi : i < 10) (k : Nat) : match_text_token.f (k + 1) [65] (rd_T72 (bad d) (i : Int)).f0 (rd_T72 (bad d) (i : Int)).f1 (rd_T72 (bad d) (i : Int)).f2 = some (false, [65]) := by
  have hm : mn (([65] : List Int).length : Int) 32768 = 1 := by decide +kernel
  have hj : ∀ a b c, match_text_token.j0 (k + 1) true [65] a b c = some (false, [65]) := by
    intro a b c
    simp only [match_text_token.j0]
    rw [if_pos trivial]
  have e : ∀ t : S72, rd_T72 (bad d) (i : Int) = t → match_text_token.f (k + 1) [65] t.f0 t.f1 t.f2 = some (false, [65]) → match_text_token.f (k + 1) [65] (rd_T72 (bad d) (i : Int)).f0 (rd_T72 (bad d) (i : Int)).f1 (rd_T72 (bad d) (i : Int)).f2 = some (false, [65]) := by
    rintro _ rfl h; exact h
  rcases (by omega : i = 0 ∨ i = 1 ∨ i = 2 ∨ i = 3 ∨ i = 4 ∨ i = 5 ∨ i = 6 ∨ i = 7 ∨ i = 8 ∨ i = 9) with rfl | rfl | rfl | rfl | rfl | rfl | rfl | rfl | rfl | rfl
  · refine e ⟨-d, 0, 0⟩ rfl ?_
    unfold match_text_token.f; rw [if_pos rfl, if_pos (by dsimp only; omega)]
  · refine e ⟨255 + d, 0, 0⟩ rfl ?_
    unfold match_text_token.f; rw [if_pos rfl, if_neg (by dsimp only; omega), if_pos (by dsimp only; omega)]
  · refine e ⟨1, 0, d⟩ rfl ?_
    unfold match_text_token.f; rw [if_pos rfl, if_neg (by dsimp only; omega), if_neg (by dsimp only; omega), if_neg (by dsimp only; omega)]
  · refine e ⟨0, 2, 1⟩ rfl ?_
    unfold match_text_token.f; rw [if_neg (by dsimp only; omega), if_pos rfl, if_pos (by dsimp only; omega)]; exact hj _ _ _
  · refine e ⟨0, -d, 1⟩ rfl ?_
    unfold match_text_token.f; rw [if_neg (by dsimp only; omega), if_pos rfl, if_pos (by dsimp only; omega)]; exact hj _ _ _
  · refine e ⟨0, 258 + d, 1⟩ rfl ?_
    unfold match_text_token.f; rw [if_neg (by dsimp only; omega), if_pos rfl, if_neg (by dsimp only; omega), if_pos (by dsimp only; omega)]; exact hj _ _ _
  · refine e ⟨0, 3, 0⟩ rfl ?_
    unfold match_text_token.f; rw [if_neg (by dsimp only; omega), if_pos rfl, if_neg (by dsimp only; omega), if_neg (by dsimp only; omega), if_pos (by dsimp only; omega)]; exact hj _ _ _
  · refine e ⟨0, 3, -d⟩ rfl ?_
    unfold match_text_token.f; rw [if_neg (by dsimp only; omega), if_pos rfl, if_neg (by dsimp only; omega), if_neg (by dsimp only; omega), if_pos (by dsimp only; omega)]; exact hj _ _ _
  · refine e ⟨0, 3, 1 + d⟩ rfl ?_
    unfold match_text_token.f; rw [if_neg (by dsimp only; omega), if_pos rfl, if_neg (by dsimp only; omega), if_neg (by dsimp only; omega), if_neg (by dsimp only; omega), hm, if_pos (by dsimp only; omega)]; exact hj _ _ _
  · refine e ⟨d, 3, 1⟩ rfl ?_
    unfold match_text_token.f; rw [if_neg (by dsimp only; omega), if_neg (by dsimp only; omega)]; exact hj _ _ _
theorem runs_take : (runs 32).take 30 = runs 29 := rfl
theorem forms_l0 (x8 : List S72) : ∀ (d i : Nat), i + d = 32 → ∀ k, 1000 ≤ k → match_May.f k x8 = some false → (∀ k', k ≤ k' → match_May.f k' x8 = some false) → portagelaw5_MatchForms.l0 (k + d + 1) x8 ⟨#[]⟩ 500 (runs i) (i : Int) = some true
  | 0, i, hi, k, hk, _, hm => by
    obtain rfl : i = 32 := by omega
    obtain ⟨r, h1, _⟩ := runs_k 32 (by omega) (k := k) (by omega)
    obtain ⟨r2, h2, hr2⟩ := runs_k 29 (by omega) (k := k) (by omega)
    have hm := hm k (by omega)
    rw [show k + 0 + 1 = k + 1 from rfl]
    have hl : (runs 32).length = 33 := rfl
    have hE32 : match_Expand.f k (runs 32) = some (⟨#[]⟩, 500) := by
      unfold match_Expand.f
      rw [h1, decide_eq_false (by omega), Option.bind_some, if_neg (by simp)]
    have hM32 : match_May.f k (runs 32) = some false := by
      unfold match_May.f
      rw [h1, decide_eq_false (by omega), Option.bind_some]
    have hE29 : match_Expand.f k (runs 29) = some (strOfNums r2, 0) := by
      unfold match_Expand.f
      rw [h2, decide_eq_true (by omega), Option.bind_some, if_pos rfl]
    have hz : (strOfNums r2).size = 7483 := by rw [strOfNums_size, hr2 (by omega), List.length_replicate]
    have he : (⟨#[]⟩ : ByteArray).toList = [] := by rw [ByteArray.toList_eq]
    generalize strOfNums r2 = z at hE29 hz
    rw [portagelaw5_MatchForms.l0, if_neg (by omega), hE32, Option.bind_some, hl, if_pos (by omega), runs_take, hE29, Option.bind_some, hm, Option.bind_some, if_neg (by decide), he, if_pos rfl]
    simp only [num_k]
    rw [Option.bind_some, if_pos rfl, hM32, Option.bind_some, if_neg (by decide), Option.bind_some, if_pos rfl, if_pos (by omega), Option.bind_some]
    rfl
  | d + 1, i, hi, k, hk, h, hm => by
    have ih := forms_l0 x8 d (i + 1) (by omega) k hk h hm
    rw [show k + (d + 1) + 1 = (k + d + 1) + 1 from by omega]
    generalize k + d + 1 = K at ih ⊢
    simp only [portagelaw5_MatchForms.l0]
    have hl : (runs i).length = i + 1 := by simp [runs]
    have e : runs i ++ [⟨0, 258, 1⟩] = runs (i + 1) := by simp [runs, List.replicate_succ']
    rw [if_pos (by omega), if_pos (by omega), e, w64 (by omega) (by omega), show (i : Int) + 1 = ((i + 1 : Nat) : Int) from by omega]
    exact ih
theorem MatchForms : portagelaw5_MatchForms.Pure := by
  intro a0 a1 _ _
  obtain ⟨i, hi, ei⟩ := pick a0 10 (by omega) (by omega)
  have hd : 1 ≤ wrap64 (1 + Go.bits .and .i64 a1 1023) ∧ wrap64 (1 + Go.bits .and .i64 a1 1023) ≤ 1024 := by
    rw [Bits.and_10, w64 (by omega) (by omega)]; omega
  have ei : wrap64 (Int.tmod (IntKind.u64.wrap a0) 10) = (i : Int) := ei
  refine ⟨2000, ?_⟩
  have hw := awake_true (k := 2000) (by omega)
  unfold portagelaw5_MatchForms.f
  rw [hw, Option.bind_some, if_pos rfl, ei]
  generalize wrap64 (1 + Go.bits .and .i64 a1 1023) = d at hd ⊢
  obtain ⟨h1, h2⟩ := hd
  have hb : ([(⟨wrap64 (-d), 0, 0⟩ : S72), ⟨wrap64 (255 + d), 0, 0⟩, ⟨1, 0, d⟩, ⟨0, 2, 1⟩, ⟨0, wrap64 (-d), 1⟩, ⟨0, wrap64 (258 + d), 1⟩, ⟨0, 3, 0⟩, ⟨0, 3, wrap64 (-d)⟩, ⟨0, 3, wrap64 (1 + d)⟩, ⟨d, 3, 1⟩] : List S72) = bad d := by
    rw [w64 (by omega) (by omega), w64 (by omega) (by omega), w64 (by omega) (by omega), w64 (by omega) (by omega)]; rfl
  rw [hb, Option.bind_some, if_pos (by omega), if_pos (show (i : Int) < ((bad d).length : Int) by show (i : Int) < 10; omega), Option.bind_some]
  have ha : ∀ k, match_text_all.f (k + 5) [] [⟨65, 0, 0⟩, rd_T72 (bad d) (i : Int)] = some (false, [65]) := two_k _ (bad_k d h1 h2 i hi)
  have hE : match_Expand.f 2000 [⟨65, 0, 0⟩, rd_T72 (bad d) (i : Int)] = some (⟨#[]⟩, 500) := by
    unfold match_Expand.f
    rw [show (2000 : Nat) = 1995 + 5 from rfl, ha, Option.bind_some, if_neg (by decide)]
  have hM : ∀ k', 1967 ≤ k' → match_May.f k' [⟨65, 0, 0⟩, rd_T72 (bad d) (i : Int)] = some false := by
    intro k' hk'
    obtain ⟨m, rfl⟩ : ∃ m, k' = m + 5 := ⟨k' - 5, by omega⟩
    unfold match_May.f
    rw [ha, Option.bind_some]
  have hl := forms_l0 [⟨65, 0, 0⟩, rd_T72 (bad d) (i : Int)] 32 0 (by omega) 1967 (by omega) (hM 1967 (by omega)) hM
  show (match_Expand.f 2000 [⟨65, 0, 0⟩, rd_T72 (bad d) (i : Int)]).bind _ = _
  rw [hE, Option.bind_some, if_pos (by simp)]
  exact hl
end Go.Proofs.Ytnjbbfcknijcnaa.Pure
