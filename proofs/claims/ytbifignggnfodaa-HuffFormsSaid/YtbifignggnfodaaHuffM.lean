/- The numbers of a book of codes by lengths: how many codes of a length, which symbols have it, the first code of a length, the room that is left; plain lists and integers, no program in sight. -/
import Derived.RowKit
namespace Go.Proofs.Ytbifignggnfodaa.HuffM
/-- How many of l are n; none is counted at 0. -/
def cnt (l : List Int) (n : Nat) : Int := if n = 0 then 0 else ((l.filter fun x => x == (n : Int)).length : Int)
/-- Where l is n, rising. -/
def pos (l : List Int) (n : Nat) : List Int := if n = 0 then [] else (l.zipIdx.filter fun p => p.1 == (n : Int)).map fun p => (p.2 : Int)
/-- The first code of a length. -/
def cd (l : List Int) : Nat → Int
  | 0 => 0
  | n + 1 => (cd l n + cnt l n) * 2
/-- The room that is left behind a length. -/
def lft (l : List Int) : Nat → Int
  | 0 => 1
  | n + 1 => lft l n * 2 - cnt l (n + 1)
theorem cnt_nil (n : Nat) : cnt [] n = 0 := by unfold cnt; split <;> rfl
theorem pos_nil (n : Nat) : pos [] n = [] := by unfold pos; split <;> rfl
theorem cnt_snoc_eq (l : List Int) (n : Nat) (h : n ≠ 0) : cnt (l ++ [(n : Int)]) n = cnt l n + 1 := by
  unfold cnt
  rw [if_neg h, if_neg h, List.filter_append]
  simp
theorem cnt_snoc_ne (l : List Int) (x : Int) (n : Nat) (h : x ≠ (n : Int)) : cnt (l ++ [x]) n = cnt l n := by
  unfold cnt
  split
  · rfl
  · rw [List.filter_append]
    simp [h]
theorem cnt_snoc_zero (l : List Int) (x : Int) (n : Nat) (h : x ≤ 0) : cnt (l ++ [x]) n = cnt l n := by
  by_cases hn : n = 0
  · unfold cnt; rw [if_pos hn, if_pos hn]
  · exact cnt_snoc_ne l x n (by omega)
theorem zip_snoc (l : List Int) (x : Int) : (l ++ [x]).zipIdx = l.zipIdx ++ [(x, l.length)] := by rw [List.zipIdx_append]; simp
theorem pos_snoc_eq (l : List Int) (n : Nat) (h : n ≠ 0) : pos (l ++ [(n : Int)]) n = pos l n ++ [(l.length : Int)] := by
  unfold pos
  rw [if_neg h, if_neg h, zip_snoc, List.filter_append, List.map_append]
  simp
theorem pos_snoc_ne (l : List Int) (x : Int) (n : Nat) (h : x ≠ (n : Int)) : pos (l ++ [x]) n = pos l n := by
  unfold pos
  split
  · rfl
  · rw [zip_snoc, List.filter_append, List.map_append]
    simp [h]
theorem pos_snoc_zero (l : List Int) (x : Int) (n : Nat) (h : x ≤ 0) : pos (l ++ [x]) n = pos l n := by
  by_cases hn : n = 0
  · unfold pos; rw [if_pos hn, if_pos hn]
  · exact pos_snoc_ne l x n (by omega)
theorem filter_zip (l : List Int) (n : Int) : ∀ m : Nat, ((l.zipIdx m).filter fun p => p.1 == n).length = (l.filter fun x => x == n).length := by
  induction l with
  | nil => intro m; rfl
  | cons x l ih =>
    intro m
    rw [List.zipIdx_cons, List.filter_cons, List.filter_cons]
    by_cases h : (x == n) = true
    · simp only [h, if_true, List.length_cons, ih]
    · simp only [h]
      exact ih _
theorem pos_length (l : List Int) (n : Nat) : ((pos l n).length : Int) = cnt l n := by
  unfold pos cnt
  split
  · rfl
  · rw [List.length_map, filter_zip]
theorem cnt_bd (l : List Int) (n : Nat) : 0 ≤ cnt l n ∧ cnt l n ≤ l.length := by
  unfold cnt
  split
  · omega
  · have := List.length_filter_le (fun x : Int => x == (n : Int)) l
    omega
theorem cd_bd (l : List Int) (hl : l.length ≤ 288) : ∀ n : Nat, 0 ≤ cd l n ∧ cd l n + 576 ≤ 576 * 2 ^ n
  | 0 => by unfold cd; omega
  | n + 1 => by
    have h := cd_bd l hl n
    have c := cnt_bd l n
    unfold cd
    rw [Int.pow_succ]
    omega
theorem lft_bd (l : List Int) (hl : l.length ≤ 288) : ∀ n : Nat, lft l n ≤ 2 ^ n ∧ -288 * 2 ^ n ≤ lft l n - 288
  | 0 => by unfold lft; omega
  | n + 1 => by
    have h := lft_bd l hl n
    have c := cnt_bd l (n + 1)
    unfold lft
    rw [Int.pow_succ]
    omega
theorem cd_small (l : List Int) (hl : l.length ≤ 288) (n : Nat) (hn : n ≤ 16) : 0 ≤ cd l n ∧ cd l n ≤ 40000000 := by
  have h := cd_bd l hl n
  have : (2 : Int) ^ n ≤ 2 ^ 16 := by exact_mod_cast Nat.pow_le_pow_right (n := 2) (by decide) hn
  omega
theorem lft_small (l : List Int) (hl : l.length ≤ 288) (n : Nat) (hn : n ≤ 16) : lft l n ≤ 40000000 ∧ -40000000 ≤ lft l n := by
  have h := lft_bd l hl n
  have : (2 : Int) ^ n ≤ 2 ^ 16 := by exact_mod_cast Nat.pow_le_pow_right (n := 2) (by decide) hn
  omega
end Go.Proofs.Ytbifignggnfodaa.HuffM
