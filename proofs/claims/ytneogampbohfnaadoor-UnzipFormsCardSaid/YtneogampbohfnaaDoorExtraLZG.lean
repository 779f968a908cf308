/- Chapter 12 over plain lists: low bytes, which heads may be, what 'Put' answers. -/
import Derived.Test.YtneogampbohfnaaDoorVecMZG
import Derived.Test.YtneogampbohfnaaDoorZG0
import Derived.Test.YtneogampbohfnaaDoorZG7
namespace Go.Proofs.YtneogampbohfnaaDoor.ZG
set_option linter.unusedVariables false
set_option linter.unusedSimpArgs false
open Go.RowKit Go.Proofs.YtneogampbohfnaaDoorW.PrintWords Go.Proofs.YtneogampbohfnaaDoorW.PrintLast Go.Proofs.YtneogampbohfnaaDoorW.PrintMore
theorem w64 {n : Int} (h : -9223372036854775808 ≤ n) (h' : n < 9223372036854775808) : wrap64 n = n := by unfold wrap64; omega
def lowB (x : Int) (i : Nat) : Int := shr .i64 x ((8 * i : Nat) : Int) % 256
/-- The n lowest bytes of x, the lowest first. -/
def lowL (x : Int) (n : Nat) : List Int := (List.range n).map (lowB x)
theorem lowL_length (x : Int) (n : Nat) : (lowL x n).length = n := by simp [lowL]
theorem low_l0 (x : Int) (n : Nat) (hn : n ≤ 8) : ∀ (d i : Nat), i + d = n → ∀ K, d + 1 ≤ K → extra_Low.l0 K x (lowL x i ++ List.replicate d 0) (n : Int) (i : Int) = some (strOfNums (lowL x n))
  | 0, i, hi, K, hK => by
    obtain ⟨m, rfl⟩ : ∃ m, K = m + 1 := ⟨K - 1, by omega⟩
    rw [extra_Low.l0, if_neg (by omega), List.replicate_zero, List.append_nil, show i = n from by omega]
  | d + 1, i, hi, K, hK => by
    obtain ⟨m, rfl⟩ : ∃ m, K = m + 1 := ⟨K - 1, by omega⟩
    have ih := low_l0 x n hn d (i + 1) (by omega) m (by omega)
    have hs : (lowL x i ++ List.replicate (d + 1) 0).set (i : Int).toNat (lowB x i) = lowL x (i + 1) ++ List.replicate d 0 := by
      rw [show ((i : Int)).toNat = i from by omega, List.set_append_right _ _ (by rw [lowL_length]; omega), lowL_length, Nat.sub_self, List.replicate_succ, qsB]
      simp [lowL, List.range_succ]
    rw [extra_Low.l0, if_pos (by omega), w64 (n := 8 * (i : Int)) (by omega) (by omega), if_pos (by omega), if_pos (by omega), if_pos (by rw [List.length_append, lowL_length, List.length_replicate]; omega),
      show (8 * (i : Int)) = ((8 * i : Nat) : Int) from by omega]
    show extra_Low.l0 m x ((lowL x i ++ List.replicate (d + 1) 0).set (i : Int).toNat (lowB x i)) _ _ = _
    rw [hs, w64 (by omega) (by omega), show (i : Int) + 1 = ((i + 1 : Nat) : Int) from by omega]
    exact ih
theorem low_k (x : Int) (n : Nat) (hn : n ≤ 8) {k : Nat} (hk : 10 ≤ k) : extra_Low.f k x (n : Int) = some (strOfNums (lowL x n)) := by
  unfold extra_Low.f
  rw [if_pos (by omega), if_pos (by omega), show ((n : Int)).toNat = n from by omega, Option.bind_some, List.length_replicate]
  exact low_l0 x n hn n 0 (by omega) k (by omega)
def nodeOk (n : Int) : Bool := decide (0 ≤ n) && decide (n < 4)
def mayE (v : List Int) (stamp node : Int) : Bool := vok v && (decide (1 ≤ stamp) && (okc stamp && nodeOk node))
theorem strs_append (a b : List Int) : strOfNums (a ++ b) = strOfNums a ++ strOfNums b := by
  apply Go.WideShapes.bytes_inj
  rw [ByteArray.data_append, Array.toList_append, strOfNums_data, strOfNums_data, strOfNums_data, List.map_append]
theorem may_kE (a : ByteArray) (b : Bool) (v : List Int) (stamp node m : Int) (p : ByteArray) (z c : Int) {k : Nat} (hk : 5 ≤ k) : extra_May.f k a b v stamp node m p z c = some (mayE v stamp node) := by
  have hC : vector_Count.f stamp = some (okc stamp) := by
    unfold vector_Count.f okc
    by_cases h : stamp ≥ 0
    · rw [if_pos h, decide_eq_true (p := 0 ≤ stamp) h]; simp
    · rw [if_neg h, decide_eq_false (p := 0 ≤ stamp) h]; simp
  have hN : vector_Node.f node = some (nodeOk node) := by
    unfold vector_Node.f nodeOk
    by_cases h : node ≥ 0
    · rw [if_pos h, decide_eq_true (p := 0 ≤ node) h]; simp
    · rw [if_neg h, decide_eq_false (p := 0 ≤ node) h]; simp
  unfold extra_May.f mayE
  rw [may_k v hk, Option.bind_some, hC, hN]
  by_cases h1 : vok v = true
  · rw [if_pos h1, h1]
    by_cases h2 : stamp ≥ 1
    · rw [if_pos h2, decide_eq_true (p := 1 ≤ stamp) h2, Option.bind_some]
      by_cases h3 : okc stamp = true
      · rw [if_pos h3, h3, Option.bind_some]; simp
      · rw [if_neg h3, show okc stamp = false by simpa using h3]; simp
    · rw [if_neg h2, decide_eq_false (p := 1 ≤ stamp) h2]; simp
  · rw [if_neg h1, show vok v = false by simpa using h1]; simp
/-- A head's text. -/
def endL (stamp node : Int) (gone : Bool) : List Int := lowL stamp 4 ++ lowL node 1 ++ lowL (if gone = true then 1 else 0) 1
def putL (v : List Int) (stamp node : Int) (gone : Bool) : List Int := lowL 20592 2 ++ lowL 22 2 ++ v.flatMap (fun x => lowL x 4) ++ endL stamp node gone
theorem put_l0 (a : ByteArray) (b : Bool) (v : List Int) (stamp node m : Int) (p : ByteArray) (z c : Int) (hv : v.length ≤ 4) : ∀ (d i : Nat) (acc : List Int), i + d = v.length → acc.length + 4 * d ≤ 1000 → ∀ K, 20 + d ≤ K →
    extra_Put.l0 K (strOfNums acc) v (v.length : Int) (i : Int) a b v stamp node m p z c = some (strOfNums (acc ++ (v.drop i).flatMap (fun x => lowL x 4) ++ endL stamp node b), 0)
  | 0, i, acc, hi, ha, K, hK => by
    obtain ⟨q, rfl⟩ : ∃ q, K = q + 1 := ⟨K - 1, by omega⟩
    have e4 : extra_Low.f q stamp 4 = some (strOfNums (lowL stamp 4)) := low_k stamp 4 (by omega) (by omega)
    have e1 : ∀ x, extra_Low.f q x 1 = some (strOfNums (lowL x 1)) := fun x => low_k x 1 (by omega) (by omega)
    have hs : ∀ l : List Int, l.length ≤ 2000 → (strOfNums l).size ≤ 2000 := fun l h => by rw [strOfNums_size]; exact h
    rw [extra_Put.l0, if_neg (by omega), List.drop_eq_nil_of_le (by omega), List.flatMap_nil, List.append_nil]
    have l4 := lowL_length stamp 4
    have l1 := fun x => lowL_length x 1
    cases b
    · rw [if_neg (by decide), e4, Option.bind_some, if_pos (by rw [strOfNums_size, strOfNums_size]; omega), e1, Option.bind_some, ← strs_append, if_pos (by rw [strOfNums_size, strOfNums_size, List.length_append, l1]; omega), e1, Option.bind_some, ← strs_append,
        if_pos (by rw [strOfNums_size, strOfNums_size, List.length_append, List.length_append, l1, l1]; omega), ← strs_append]
      simp [endL, List.append_assoc]
    · rw [if_pos rfl, e4, Option.bind_some, if_pos (by rw [strOfNums_size, strOfNums_size]; omega), e1, Option.bind_some, ← strs_append, if_pos (by rw [strOfNums_size, strOfNums_size, List.length_append, l1]; omega), e1, Option.bind_some, ← strs_append,
        if_pos (by rw [strOfNums_size, strOfNums_size, List.length_append, List.length_append, l1, l1]; omega), ← strs_append]
      simp [endL, List.append_assoc]
  | d + 1, i, acc, hi, ha, K, hK => by
    obtain ⟨q, rfl⟩ : ∃ q, K = q + 1 := ⟨K - 1, by omega⟩
    have e4 : extra_Low.f q (rd v (i : Int)) 4 = some (strOfNums (lowL (rd v (i : Int)) 4)) := low_k _ 4 (by omega) (by omega)
    have l4 := lowL_length (rd v (i : Int)) 4
    have ih := put_l0 a b v stamp node m p z c hv d (i + 1) (acc ++ lowL (rd v (i : Int)) 4) (by omega) (by rw [List.length_append]; omega) q (by omega)
    rw [extra_Put.l0, if_pos (by omega), if_pos (by omega), if_pos (by omega), e4, Option.bind_some, if_pos (by rw [strOfNums_size, strOfNums_size]; omega), ← strs_append, w64 (by omega) (by omega), show (i : Int) + 1 = ((i + 1 : Nat) : Int) from by omega, ih, rd_drop v i (by omega)]
    simp [List.append_assoc]
theorem put_k (a : ByteArray) (b : Bool) (v : List Int) (stamp node m : Int) (p : ByteArray) (z c : Int) {k : Nat} (hk : 40 ≤ k) : extra_Put.f k a b v stamp node m p z c = some (if mayE v stamp node = true then (strOfNums (putL v stamp node b), 0) else (⟨#[]⟩, 1200)) := by
  unfold extra_Put.f
  rw [may_kE _ _ _ _ _ _ _ _ _ (by omega), Option.bind_some]
  by_cases h : mayE v stamp node = true
  · have hv : v.length = 4 := by
      unfold mayE vok at h
      simp only [Bool.and_eq_true, decide_eq_true_eq] at h
      exact h.1.1
    have e2 : ∀ x, extra_Low.f k x 2 = some (strOfNums (lowL x 2)) := fun x => low_k x 2 (by omega) (by omega)
    rw [if_pos h, if_pos h, e2, Option.bind_some, e2, Option.bind_some, if_pos (by rw [strOfNums_size, strOfNums_size, lowL_length, lowL_length]; omega), ← strs_append]
    have := put_l0 a b v stamp node m p z c (by omega) v.length 0 (lowL 20592 2 ++ lowL 22 2) (by omega) (by rw [List.length_append, lowL_length, lowL_length]; omega) k (by omega)
    rw [List.drop_zero] at this
    exact this
  · rw [if_neg h, if_neg h]
end Go.Proofs.YtneogampbohfnaaDoor.ZG
