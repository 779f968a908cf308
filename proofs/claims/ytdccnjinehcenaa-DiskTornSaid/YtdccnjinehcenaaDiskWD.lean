/- Chapter 17: the writes that the laws draw, and what a disk holds behind them. -/
import Derived.Test.YtdccnjinehcenaaDiskLD
import Derived.Test.YtdccnjinehcenaaDiskAD
namespace Go.Proofs.Ytdccnjinehcenaa.D
set_option linter.unusedVariables false
set_option linter.unusedSimpArgs false
open Go.RowKit Go.Proofs.YtdccnjinehcenaaW.PrintWords Go.Proofs.YtdccnjinehcenaaW.PrintLast Go.Proofs.YtdccnjinehcenaaW.PrintMore
theorem tmod_nat (a : Int) (n : Nat) (h0 : 0 < n) (hn : n ≤ 1000000) : ∃ k : Nat, k < n ∧ wrap64 (Int.tmod (IntKind.u64.wrap a) (n : Int)) = (k : Int) := by
  have hu : IntKind.u64.wrap a = a % 18446744073709551616 := rfl
  rw [hu, Int.tmod_eq_emod_of_nonneg (by omega)]
  have h1 := Int.emod_nonneg (a % 18446744073709551616) (show (n : Int) ≠ 0 by omega)
  have h2 := Int.emod_lt_of_pos (a % 18446744073709551616) (show (0 : Int) < (n : Int) by omega)
  refine ⟨(a % 18446744073709551616 % (n : Int)).toNat, by omega, ?_⟩
  unfold wrap64
  omega
/-- Where write j goes. -/
def atOf (l : List Int) (j : Nat) : Int := wrap64 (Int.tmod (IntKind.u64.wrap (rd l (j : Int))) 130)
theorem atOf_range (l : List Int) (j : Nat) : 0 ≤ atOf l j ∧ atOf l j < 130 := by
  obtain ⟨k, hk, e⟩ := tmod_nat (rd l (j : Int)) 130 (by decide) (by decide)
  replace e : atOf l j = (k : Int) := e
  omega
/-- The first n writes. -/
def wr (l : List Int) (n : Nat) : List S42 := (List.range n).map fun j => (⟨atOf l j, blk ((j + 1 : Nat) : Int)⟩ : S42)
theorem wr_length (l : List Int) (n : Nat) : (wr l n).length = n := by unfold wr; rw [List.length_map, List.length_range]
theorem wr_succ (l : List Int) (n : Nat) : wr l (n + 1) = wr l n ++ [⟨atOf l n, blk ((n + 1 : Nat) : Int)⟩] := by
  unfold wr
  rw [List.range_succ, List.map_append]
  rfl
theorem wr_get (l : List Int) (n j : Nat) (h : j < (wr l n).length) : (wr l n)[j] = ⟨atOf l j, blk ((j + 1 : Nat) : Int)⟩ := by
  have e : (wr l n)[j]? = some ⟨atOf l j, blk ((j + 1 : Nat) : Int)⟩ := by
    rw [wr_length] at h
    unfold wr
    rw [List.getElem?_map, List.getElem?_range h]
    rfl
  rw [List.getElem?_eq_getElem h] at e
  exact Option.some.inj e
theorem wr_take (l : List Int) (n k : Nat) (h : k ≤ n) : (wr l n).take k = wr l k := by
  unfold wr
  rw [← List.map_take, List.take_range, Nat.min_eq_left h]
theorem wr_fine (l : List Int) (n : Nat) : (wr l n).any badw = false := by
  rw [Bool.eq_false_iff]
  intro h
  obtain ⟨w, hw, hb⟩ := List.any_eq_true.mp h
  unfold wr at hw
  obtain ⟨j, _, rfl⟩ := List.mem_map.mp hw
  have hr := atOf_range l j
  have : badw (⟨atOf l j, blk ((j + 1 : Nat) : Int)⟩ : S42) = false := by
    unfold badw
    rw [decide_eq_false (show ¬ atOf l j < 0 by omega), decide_eq_false (show ¬ atOf l j ≥ 130 by omega)]
    show ((((blk ((j + 1 : Nat) : Int)).size : Nat) : Int) != 64) = false
    rw [blk_size]
    rfl
  rw [this] at hb
  exact absurd hb (by simp)
theorem w1 (n : Nat) (h : n ≤ 100) : wrap64 ((n : Int) + 1) = ((n + 1 : Nat) : Int) ∧ wrap64 (1 + (n : Int)) % 256 = ((n + 1 : Nat) : Int) := by
  unfold wrap64
  omega
/-- Which byte each block has behind the first n writes. -/
def want (l : List Int) : Nat → List Int
  | 0 => List.replicate 130 0
  | n + 1 => (want l n).set (atOf l n).toNat ((n + 1 : Nat) : Int)
theorem want_length (l : List Int) : ∀ n, (want l n).length = 130
  | 0 => List.length_replicate
  | n + 1 => by rw [want, List.length_set, want_length l n]
theorem puts_want (l : List Int) : ∀ n, puts (List.replicate 130 (blk 0)) (wr l n) = (want l n).map blk
  | 0 => by
    rw [want, List.map_replicate]
    rfl
  | n + 1 => by
    rw [wr_succ, puts_append, puts_want l n, puts_cons, puts_nil, want, List.map_set]
theorem extract_none (a b : ByteArray) : a.extract 0 0 ++ b.extract 0 b.size = b := by
  apply Go.WideShapes.bytes_inj
  rw [ByteArray.data_append, Array.toList_append, ByteArray.data_extract, ByteArray.data_extract, Array.toList_extract, Array.toList_extract, List.extract_eq_take_drop, List.extract_eq_take_drop, List.drop_zero, List.drop_zero, Nat.sub_zero, Nat.sub_zero, List.take_zero, List.nil_append]
  exact List.take_of_length_le (Nat.le_refl _)
theorem extract_all (a b : ByteArray) (h : a.size = b.size) : a.extract 0 a.size ++ b.extract a.size b.size = a := by
  apply Go.WideShapes.bytes_inj
  rw [ByteArray.data_append, Array.toList_append, ByteArray.data_extract, ByteArray.data_extract, Array.toList_extract, Array.toList_extract, List.extract_eq_take_drop, List.extract_eq_take_drop, h, Nat.sub_self, List.take_zero, List.append_nil, List.drop_zero, Nat.sub_zero]
  exact List.take_of_length_le (by rw [← h]; exact Nat.le_refl _)
theorem set_same {l : List ByteArray} {i : Nat} : l.set i (l.getD i ByteArray.empty) = l := by
  by_cases h : i < l.length
  · rw [List.getD_eq_getElem?_getD, List.getElem?_eq_getElem h]
    exact List.set_getElem_self h
  · rw [List.set_eq_of_length_le (by omega)]
/-- Torn behind none: not written. -/
theorem ran_none (d : List ByteArray) (ws : List S42) (n : Nat) : ran d ws n 0 = puts d (ws.take n) := by
  unfold ran
  by_cases h : n < ws.length
  · rw [dif_pos h, extract_none, set_same]
  · rw [dif_neg h]
/-- Torn behind all: written. -/
theorem ran_all (d : List ByteArray) (ws : List S42) (n : Nat) (hn : n < ws.length) (hd : fine d) (hw : ws.any badw = false) : ran d ws n 64 = puts d (ws.take (n + 1)) := by
  have hb := badw_false (any_false hw (List.getElem_mem hn))
  have hp := fine_puts (ws.take n) d hd (any_take hw n)
  have hg := fine_get hp (i := ws[n].f0.toNat) (by omega)
  unfold ran
  rw [dif_pos hn]
  have e := extract_all ws[n].f1 ((puts d (ws.take n)).getD ws[n].f0.toNat ByteArray.empty) (by omega)
  rw [hb.2.2] at e
  rw [e, ← List.take_append_getElem hn, puts_append, puts_cons, puts_nil]
end Go.Proofs.Ytdccnjinehcenaa.D
