/- Chapter 12 over plain lists: what the document's own answer does. -/
import Derived.Test.YtnjbbfcknijcnaaExtraPX
import Derived.Test.YtnjbbfcknijcnaaSameIX
import Derived.Test.YtnjbbfcknijcnaaX4
import Derived.Test.YtnjbbfcknijcnaaX5
import Derived.Test.YtnjbbfcknijcnaaX7
import Derived.Test.YtnjbbfcknijcnaaX8
import Derived.Test.YtnjbbfcknijcnaaX9
import Derived.Test.YtnjbbfcknijcnaaX1
import Derived.Test.YtnjbbfcknijcnaaBits
namespace Go.Proofs.Ytnjbbfcknijcnaa.X
set_option linter.unusedVariables false
set_option linter.unusedSimpArgs false
open Go.RowKit Go.Proofs.YtnjbbfcknijcnaaW.PrintWords Go.Proofs.YtnjbbfcknijcnaaW.PrintLast Go.Proofs.YtnjbbfcknijcnaaW.PrintMore
theorem vecmay_l0 (l : List Int) (hl : l.length ≤ 4611686018427387904) : ∀ (d i : Nat), i + d = l.length → ∀ K, d + 1 ≤ K → portageref10_VecMay.l0 K l (i : Int) = some ((l.drop i).all okc && decide (l.length = 4))
  | 0, i, hi, K, hK => by
    obtain ⟨q, rfl⟩ : ∃ q, K = q + 1 := ⟨K - 1, by omega⟩
    rw [portageref10_VecMay.l0, if_neg (by omega), List.drop_eq_nil_of_le (by omega)]
    congr 1
    by_cases h : l.length = 4
    · simp [h]
    · have : ¬ ((l.length : Int) = 4) := by omega
      simp [h, this]
  | d + 1, i, hi, K, hK => by
    obtain ⟨q, rfl⟩ : ∃ q, K = q + 1 := ⟨K - 1, by omega⟩
    have ih := vecmay_l0 l hl d (i + 1) (by omega) q (by omega)
    rw [portageref10_VecMay.l0, if_pos (by omega), if_pos (by omega), rd_drop l i (by omega), List.all_cons]
    by_cases h0 : rd l (i : Int) < 0
    · rw [if_pos h0]
      have : okc (rd l (i : Int)) = false := by unfold okc; simp; omega
      rw [this]; rfl
    · rw [if_neg h0]
      by_cases h1 : rd l (i : Int) > 1048576
      · rw [if_pos h1]
        have : okc (rd l (i : Int)) = false := by unfold okc; simp; omega
        rw [this]; rfl
      · rw [if_neg h1, w64 (by omega) (by omega)]
        have : okc (rd l (i : Int)) = true := by unfold okc; simp; omega
        rw [this, Bool.true_and]
        exact ih
theorem refmay_k (a : ByteArray) (b : Bool) (v : List Int) (stamp node m : Int) (p : ByteArray) (z c : Int) (hl : v.length ≤ 4611686018427387904) {k : Nat} (hk : v.length + 1 ≤ k) : portageref10_headMay.f k a b v stamp node m p z c = some (mayE v stamp node) := by
  have h := vecmay_l0 v hl v.length 0 (by omega) k hk
  unfold portageref10_headMay.f portageref10_VecMay.f mayE vok okc nodeOk
  have h : portageref10_VecMay.l0 k v 0 = _ := h
  rw [h, Option.bind_some, List.drop_zero, Bool.and_comm]
  unfold okc
  by_cases h1 : (decide (v.length = 4) && v.all fun n => decide (0 ≤ n) && decide (n ≤ 1048576)) = true
  · rw [if_pos h1, h1]
    by_cases h2 : stamp ≥ 1
    · rw [if_pos h2]
      by_cases h3 : stamp ≤ 1048576
      · rw [if_pos h3]
        by_cases h4 : node ≥ 0
        · rw [if_pos h4]
          have : 0 ≤ stamp := by omega
          simp [show 1 ≤ stamp from h2, h3, show 0 ≤ node from h4, this]
        · rw [if_neg h4]
          simp [show ¬ 0 ≤ node from h4]
      · rw [if_neg h3]
        simp [h3]
    · rw [if_neg h2]
      simp [show ¬ 1 ≤ stamp from h2]
  · rw [if_neg h1]
    rw [show (decide (v.length = 4) && v.all fun n => decide (0 ≤ n) && decide (n ≤ 1048576)) = false from by simpa using h1]
    rfl
theorem bytes_l0 (x : Int) (n : Nat) (hn : n ≤ 8) : ∀ (d i : Nat), i + d = n → ∀ K, d + 1 ≤ K → portageref10_Bytes.l0 K x (n : Int) (lowL x i) (i : Int) = some (strOfNums (lowL x n))
  | 0, i, hi, K, hK => by
    obtain ⟨m, rfl⟩ : ∃ m, K = m + 1 := ⟨K - 1, by omega⟩
    rw [portageref10_Bytes.l0, if_neg (by omega), show i = n from by omega]
  | d + 1, i, hi, K, hK => by
    obtain ⟨m, rfl⟩ : ∃ m, K = m + 1 := ⟨K - 1, by omega⟩
    have ih := bytes_l0 x n hn d (i + 1) (by omega) m (by omega)
    have hs : lowL x i ++ [lowB x i] = lowL x (i + 1) := by simp [lowL, List.range_succ]
    rw [portageref10_Bytes.l0, if_pos (by omega), w64 (n := 8 * (i : Int)) (by omega) (by omega), if_pos (by omega), if_pos (by rw [lowL_length]; omega),
      show (8 * (i : Int)) = ((8 * i : Nat) : Int) from by omega]
    show portageref10_Bytes.l0 m x (n : Int) (lowL x i ++ [lowB x i]) _ = _
    rw [hs, w64 (by omega) (by omega), show (i : Int) + 1 = ((i + 1 : Nat) : Int) from by omega]
    exact ih
theorem bytes_k (x : Int) (n : Nat) (hn : n ≤ 8) {k : Nat} (hk : 10 ≤ k) : portageref10_Bytes.f k x (n : Int) = some (strOfNums (lowL x n)) := by
  unfold portageref10_Bytes.f
  exact bytes_l0 x n hn n 0 (by omega) k (by omega)
theorem refput_l0 (a : ByteArray) (b : Bool) (v : List Int) (stamp node m : Int) (p : ByteArray) (z c : Int) (hv : v.length ≤ 4) : ∀ (d i : Nat) (acc : List Int), i + d = v.length → acc.length + 4 * d ≤ 1000 → ∀ K, 20 + d ≤ K →
    portageref10_PutExtra.l0 K (strOfNums acc) (i : Int) a b v stamp node m p z c = some (strOfNums (acc ++ (v.drop i).flatMap (fun x => lowL x 4) ++ endL stamp node b), 0)
  | 0, i, acc, hi, ha, K, hK => by
    obtain ⟨q, rfl⟩ : ∃ q, K = q + 1 := ⟨K - 1, by omega⟩
    have e4 : portageref10_Bytes.f q stamp 4 = some (strOfNums (lowL stamp 4)) := bytes_k stamp 4 (by omega) (by omega)
    have e1 : ∀ x, portageref10_Bytes.f q x 1 = some (strOfNums (lowL x 1)) := fun x => bytes_k x 1 (by omega) (by omega)
    rw [portageref10_PutExtra.l0, if_neg (by omega), List.drop_eq_nil_of_le (by omega), List.flatMap_nil, List.append_nil]
    have l4 := lowL_length stamp 4
    have l1 := fun x => lowL_length x 1
    cases b
    · rw [if_neg (by decide), e4, Option.bind_some, if_pos (by rw [strOfNums_size, strOfNums_size]; omega), e1, Option.bind_some, ← strs_append, if_pos (by rw [strOfNums_size, strOfNums_size, List.length_append, l1]; omega), e1, Option.bind_some, ← strs_append,
        if_pos (by rw [strOfNums_size, strOfNums_size, List.length_append, List.length_append, l1, l1]; omega), ← strs_append]
      simp [endL, List.append_assoc]
    · rw [if_pos rfl, e4, Option.bind_some, if_pos (by rw [strOfNums_size, strOfNums_size]; omega), e1, Option.bind_some, ← strs_append, if_pos (by rw [strOfNums_size, strOfNums_size, List.length_append, l1]; omega), e1, Option.bind_some, ← strs_append,
        if_pos (by rw [strOfNums_size, strOfNums_size, List.length_append, List.length_append, l1, l1]; omega), ← strs_append]
      simp [endL, List.append_assoc]
  | d + 1, i, acc, hi, ha, K, hK => by
    obtain ⟨q, rfl⟩ : ∃ q, K = q + 1 := ⟨K - 1, by omega⟩
    have e4 : portageref10_Bytes.f q (rd v (i : Int)) 4 = some (strOfNums (lowL (rd v (i : Int)) 4)) := bytes_k _ 4 (by omega) (by omega)
    have l4 := lowL_length (rd v (i : Int)) 4
    have ih := refput_l0 a b v stamp node m p z c hv d (i + 1) (acc ++ lowL (rd v (i : Int)) 4) (by omega) (by rw [List.length_append]; omega) q (by omega)
    rw [portageref10_PutExtra.l0, if_pos (by omega), if_pos (by omega), e4, Option.bind_some, if_pos (by rw [strOfNums_size, strOfNums_size]; omega), ← strs_append, w64 (by omega) (by omega), show (i : Int) + 1 = ((i + 1 : Nat) : Int) from by omega, ih, rd_drop v i (by omega)]
    simp [List.append_assoc]
theorem refput_k (a : ByteArray) (b : Bool) (v : List Int) (stamp node m : Int) (p : ByteArray) (z c : Int) (hl : v.length ≤ 4611686018427387904) {k : Nat} (hk : 40 + v.length ≤ k) : portageref10_PutExtra.f k a b v stamp node m p z c = some (if mayE v stamp node = true then (strOfNums (putL v stamp node b), 0) else (⟨#[]⟩, 1200)) := by
  unfold portageref10_PutExtra.f
  rw [refmay_k _ _ _ _ _ _ _ _ _ hl (by omega), Option.bind_some]
  by_cases h : mayE v stamp node = true
  · have hv : v.length = 4 := (mayE_parts h).1
    have e2 : ∀ x, portageref10_Bytes.f k x 2 = some (strOfNums (lowL x 2)) := fun x => bytes_k x 2 (by omega) (by omega)
    rw [if_pos h, if_pos h, e2, Option.bind_some, e2, Option.bind_some, if_pos (by rw [strOfNums_size, strOfNums_size, lowL_length, lowL_length]; omega), ← strs_append]
    have := refput_l0 a b v stamp node m p z c (by omega) v.length 0 (lowL 20592 2 ++ lowL 22 2) (by omega) (by rw [List.length_append, lowL_length, lowL_length]; omega) k (by omega)
    rw [List.drop_zero] at this
    exact this
  · rw [if_neg h, if_neg h]
/-- A number's bytes, from the highest one on. -/
theorem bt_low (X n i : Nat) (hi : i < n) : bt (strOfNums (lowL (X : Int) n)) (i : Int) = lowB (X : Int) i := by
  have hl := lowL_length (X : Int) n
  have hb := lowL_bytes (X : Int) n
  have e : (lowL (X : Int) n)[i]? = some (lowB (X : Int) i) := by
    unfold lowL
    rw [List.getElem?_map, List.getElem?_range hi]; rfl
  have hz : (strOfNums (lowL (X : Int) n)).size = n := by rw [strOfNums_size, hl]
  rw [(bt_at (strOfNums (lowL (X : Int) n)) (i : Int) (by omega)).symm]
  have h2 : (strOfNums (lowL (X : Int) n)).data.toList[i]? = some (UInt8.ofNat (lowB (X : Int) i).toNat) := by
    rw [strOfNums_data, List.getElem?_map, e]; rfl
  have hz2 : (strOfNums (lowL (X : Int) n)).data.toList.length = n := hz
  rw [List.getElem?_eq_getElem (by omega)] at h2
  injection h2 with h2
  have h3 : (strOfNums (lowL (X : Int) n))[(i : Int).toNat]'(by omega) = UInt8.ofNat (lowB (X : Int) i).toNat := h2
  have h4 : 0 ≤ lowB (X : Int) i ∧ lowB (X : Int) i < 256 := by unfold lowB; omega
  rw [h3, UInt8.toNat_ofNat_of_lt' (show (lowB (X : Int) i).toNat < UInt8.size by show (lowB (X : Int) i).toNat < 256; omega)]
  omega
theorem or_comm (a b : Int) : Go.bits .or .i64 a b = Go.bits .or .i64 b a := by
  show IntKind.i64.wrap ((BitVec.ofInt 64 a ||| BitVec.ofInt 64 b).toNat : Nat) = IntKind.i64.wrap ((BitVec.ofInt 64 b ||| BitVec.ofInt 64 a).toNat : Nat)
  rw [BitVec.or_comm]
theorem number_l0 (X n : Nat) (hn : n ≤ 4) (hX : X < 4294967296) : ∀ (i : Nat), i ≤ n → ∀ K, i + 1 ≤ K → portageref10_Number.l0 K (strOfNums (lowL (X : Int) n)) ((X / 2 ^ (8 * i) : Nat) : Int) ((i : Int) - 1) = some (X : Int)
  | 0, _, K, hK => by
    obtain ⟨q, rfl⟩ : ∃ q, K = q + 1 := ⟨K - 1, by omega⟩
    rw [portageref10_Number.l0, if_neg (by omega), Nat.mul_zero, Nat.pow_zero, Nat.div_one]
  | i + 1, hi, K, hK => by
    obtain ⟨q, rfl⟩ : ∃ q, K = q + 1 := ⟨K - 1, by omega⟩
    have hz : (strOfNums (lowL (X : Int) n)).size = n := by rw [strOfNums_size, lowL_length]
    have ih := number_l0 X n hn hX i (by omega) q (by omega)
    have hp0 : 0 < 2 ^ (8 * i) := Nat.pow_pos (by decide)
    have e : X / 2 ^ (8 * (i + 1)) = X / 2 ^ (8 * i) / 256 := by
      rw [show 8 * (i + 1) = 8 * i + 8 from by omega, Nat.pow_add, ← Nat.div_div_eq_div_mul]
    have hle : X / 2 ^ (8 * i) ≤ X := Nat.div_le_self _ _
    have hb := bt_low X n i (by omega)
    rw [lowB_nat X i (by omega)] at hb
    rw [e]
    generalize X / 2 ^ (8 * i) = Y at hle hb ih ⊢
    have ho := Bits.or_add (Y % 256) (Y / 256) 8 (by omega) (by omega)
    have hs : Y % 256 + Y / 256 * 2 ^ 8 = Y := by omega
    rw [hs] at ho
    have hq : (((i + 1 : Nat) : Int) - 1) = (i : Int) := by omega
    have hw : wrap64 (((Y / 256 : Nat) : Int) * 256) = ((Y / 256 * 2 ^ 8 : Nat) : Int) := by rw [w64 (by omega) (by omega)]; omega
    rw [portageref10_Number.l0, hq, if_pos (by omega), if_pos (by omega), if_pos (by omega), hb, hw, w64 (n := ((Y % 256 : Nat) : Int)) (by omega) (by omega), or_comm, ho, w64 (by omega) (by omega)]
    exact ih
theorem number_k (X n : Nat) (hn : n ≤ 4) (hX : X < 2 ^ (8 * n)) {k : Nat} (hk : 10 ≤ k) : portageref10_Number.f k (strOfNums (lowL (X : Int) n)) = some (X : Int) := by
  have h32 : X < 4294967296 := by
    have : 2 ^ (8 * n) ≤ 2 ^ 32 := Nat.pow_le_pow_right (by decide) (by omega)
    exact Nat.lt_of_lt_of_le hX this
  have := number_l0 X n hn h32 n (Nat.le_refl _) k (by omega)
  rw [Nat.div_eq_of_lt hX] at this
  unfold portageref10_Number.f
  rw [strOfNums_size, lowL_length, w64 (by omega) (by omega)]
  exact this
/-- Any text: some number is read. -/
theorem number_any (s : ByteArray) (hs : s.size ≤ 1000) {k : Nat} (hk : s.size + 1 ≤ k) : ∃ x, portageref10_Number.f k s = some x := by
  have hl : ∀ (i : Nat) (acc : Int), i ≤ s.size → ∀ K, i + 1 ≤ K → ∃ x, portageref10_Number.l0 K s acc ((i : Int) - 1) = some x := by
    intro i
    induction i with
    | zero =>
      intro acc _ K hK
      obtain ⟨q, rfl⟩ : ∃ q, K = q + 1 := ⟨K - 1, by omega⟩
      exact ⟨acc, by rw [portageref10_Number.l0, if_neg (by omega)]⟩
    | succ i ih =>
      intro acc hi K hK
      obtain ⟨q, rfl⟩ : ∃ q, K = q + 1 := ⟨K - 1, by omega⟩
      obtain ⟨x, hx⟩ := ih (Go.bits .or .i64 (wrap64 (acc * 256)) (wrap64 (bt s (i : Int)))) (by omega) q (by omega)
      refine ⟨x, ?_⟩
      rw [portageref10_Number.l0, show (((i + 1 : Nat) : Int) - 1) = (i : Int) from by omega, if_pos (by omega), if_pos (by omega), if_pos (by omega), w64 (n := (i : Int) - 1) (by omega) (by omega)]
      exact hx
  unfold portageref10_Number.f
  rw [w64 (by omega) (by omega)]
  exact hl s.size 0 (Nat.le_refl _) k hk
theorem refget_tail (s : ByteArray) (v : List Int) (gone : Bool) (stamp node : Int) (hv : v.length = 4) {K : Nat} (hK : 60 ≤ K) : portageref10_GetExtra.l0 (K + 1) s 4 ⟨#[]⟩ gone v stamp node 0 ⟨#[]⟩ 0 0 = some (fin s gone v stamp node) := by
  rw [portageref10_GetExtra.l0, if_neg (by omega), refput_k _ _ _ _ _ _ _ _ _ (by omega) (by omega), Option.bind_some]
  unfold fin
  by_cases hm : mayE v stamp node = true
  · rw [if_pos hm]
    dsimp only
    rw [if_pos rfl]
    by_cases ht : (strOfNums (putL v stamp node gone)).toList = s.toList
    · rw [if_pos ht, if_pos ⟨hm, ht⟩]
    · rw [if_neg ht, if_neg (fun h => ht h.2)]
  · rw [if_neg hm]
    dsimp only
    rw [if_neg (by omega), if_neg (fun h => hm h.1)]
theorem refix (i : Nat) (hi : i < 4) : wrap64 (4 + wrap64 (4 * (i : Int))) = ((4 + 4 * i : Nat) : Int) ∧ wrap64 (8 + wrap64 (4 * (i : Int))) = ((8 + 4 * i : Nat) : Int) ∧ wrap64 ((i : Int) + 1) = ((i + 1 : Nat) : Int) := by
  rw [w64 (n := 4 * (i : Int)) (by omega) (by omega), w64 (n := 4 + 4 * (i : Int)) (by omega) (by omega), w64 (n := 8 + 4 * (i : Int)) (by omega) (by omega), w64 (n := (i : Int) + 1) (by omega) (by omega)]
  refine ⟨?_, ?_, ?_⟩ <;> omega
theorem refget_step (s : ByteArray) (hs : s.size = 26) (v : List Int) (gone : Bool) (stamp node x : Int) (i : Nat) (hi : i < 4) (hv : v.length = i) (K : Nat) (hx : portageref10_Number.f K (s.extract (4 + 4 * i) (8 + 4 * i)) = some x) :
    portageref10_GetExtra.l0 (K + 1) s (i : Int) ⟨#[]⟩ gone v stamp node 0 ⟨#[]⟩ 0 0 = portageref10_GetExtra.l0 K s ((i + 1 : Nat) : Int) ⟨#[]⟩ gone (v ++ [x]) stamp node 0 ⟨#[]⟩ 0 0 := by
  obtain ⟨e1, e2, e3⟩ := refix i hi
  rw [portageref10_GetExtra.l0, if_pos (by omega), e1, e2, e3, if_pos (by omega), if_pos (by omega), if_pos (by omega), Int.toNat_natCast, Int.toNat_natCast, hx, Option.bind_some, if_pos (by omega)]
theorem refget_any (s : ByteArray) (hs : s.size = 26) {k : Nat} (hk : 200 ≤ k) : ∃ gone v stamp node, portageref10_GetExtra.f k s = some (fin s gone v stamp node) := by
  have hz : ∀ a b : Nat, (s.extract a b).size ≤ 1000 := fun a b => by rw [ByteArray.size_extract]; omega
  have hl : ∀ (d i : Nat) (v : List Int) (gone : Bool) (stamp node : Int), i + d = 4 → v.length = i → ∀ K, 100 + d ≤ K → ∃ v', portageref10_GetExtra.l0 K s (i : Int) ⟨#[]⟩ gone v stamp node 0 ⟨#[]⟩ 0 0 = some (fin s gone v' stamp node) := by
    intro d
    induction d with
    | zero =>
      intro i v gone stamp node hi hv K hK
      obtain ⟨q, rfl⟩ : ∃ q, K = q + 1 := ⟨K - 1, by omega⟩
      obtain rfl : i = 4 := by omega
      exact ⟨v, refget_tail s v gone stamp node hv (by omega)⟩
    | succ d ih =>
      intro i v gone stamp node hi hv K hK
      obtain ⟨q, rfl⟩ : ∃ q, K = q + 1 := ⟨K - 1, by omega⟩
      obtain ⟨x, hx⟩ := number_any (s.extract (4 + 4 * i) (8 + 4 * i)) (hz _ _) (k := q) (by rw [ByteArray.size_extract]; omega)
      obtain ⟨v', h⟩ := ih (i + 1) (v ++ [x]) gone stamp node (by omega) (by simp [hv]) q (by omega)
      exact ⟨v', by rw [refget_step s hs v gone stamp node x i (by omega) hv q hx]; exact h⟩
  obtain ⟨x, hx⟩ := number_any (s.extract 20 24) (hz _ _) (k := k) (by rw [ByteArray.size_extract]; omega)
  obtain ⟨v', h⟩ := hl 4 0 [] (bt s 25 == 1) x (wrap64 (bt s 24)) rfl rfl k (by omega)
  refine ⟨(bt s 25 == 1), v', x, wrap64 (bt s 24), ?_⟩
  unfold portageref10_GetExtra.f
  rw [if_pos (by omega), if_pos (by omega), if_pos (by omega), hx, Option.bind_some, if_pos (by omega), if_pos (by omega)]
  exact h
theorem str_sub (l : List Int) (i j : Nat) : (strOfNums l).extract i j = strOfNums ((l.drop i).take (j - i)) := by
  apply Go.WideShapes.bytes_inj
  rw [ByteArray.data_extract, Array.toList_extract, List.extract_eq_take_drop, strOfNums_data, strOfNums_data, List.map_take, List.map_drop]
theorem low4 (x : Int) : lowL x 4 = [lowB x 0, lowB x 1, lowB x 2, lowB x 3] := rfl
theorem low1 (x : Int) : lowL x 1 = [lowB x 0] := rfl
theorem putL_eq (a b c d s n : Int) (g : Bool) : putL [a, b, c, d] s n g = [112, 80, 22, 0, lowB a 0, lowB a 1, lowB a 2, lowB a 3, lowB b 0, lowB b 1, lowB b 2, lowB b 3, lowB c 0, lowB c 1, lowB c 2, lowB c 3, lowB d 0, lowB d 1, lowB d 2, lowB d 3, lowB s 0, lowB s 1, lowB s 2, lowB s 3, lowB n 0, lowB (if g = true then 1 else 0) 0] := by
  unfold putL endL
  rw [show lowL 20592 2 = [112, 80] from by decide, show lowL 22 2 = [22, 0] from by decide, low4 s, low1 n, low1]
  simp only [List.flatMap_cons, List.flatMap_nil, low4, List.cons_append, List.nil_append, List.append_nil]
theorem bt_of {l : List Int} (h : isBytes l) (i : Nat) (x : Int) (hi : l[i]? = some x) : bt (strOfNums l) (i : Int) = x := by
  obtain ⟨hl, e⟩ := List.getElem?_eq_some_iff.mp hi
  have hz : (strOfNums l).size = l.length := strOfNums_size l
  have e1 := (bt_at (strOfNums l) (i : Int) (by omega)).symm
  rw [e1]
  have h2 : (strOfNums l).data.toList[i]? = some (UInt8.ofNat x.toNat) := by
    rw [strOfNums_data, List.getElem?_map, hi]; rfl
  have hz2 : (strOfNums l).data.toList.length = l.length := hz
  rw [List.getElem?_eq_getElem (by omega)] at h2
  injection h2 with h2
  have h3 : (strOfNums l)[(i : Int).toNat]'(by omega) = UInt8.ofNat x.toNat := h2
  obtain ⟨h0, h1⟩ := h x (e ▸ List.getElem_mem hl)
  rw [h3, UInt8.toNat_ofNat_of_lt' (show x.toNat < UInt8.size by show x.toNat < 256; omega)]
  omega
theorem refget_put (v : List Int) (stamp node : Int) (gone : Bool) (hm : mayE v stamp node = true) {k : Nat} (hk : 200 ≤ k) : portageref10_GetExtra.f k (strOfNums (putL v stamp node gone)) = some (⟨#[]⟩, gone, v, stamp, node, 0, ⟨#[]⟩, 0, 0, 0) := by
  obtain ⟨q, rfl⟩ : ∃ q, k = q + 5 := ⟨k - 5, by omega⟩
  obtain ⟨hv, hx, hs, hn⟩ := mayE_parts hm
  match v, hv with
  | [a, b, c, d], _ =>
    have ha := hx a (by simp)
    have hb := hx b (by simp)
    have hc := hx c (by simp)
    have hd := hx d (by simp)
    obtain ⟨a, rfl⟩ : ∃ a' : Nat, a = (a' : Int) := ⟨a.toNat, by omega⟩
    obtain ⟨b, rfl⟩ : ∃ a' : Nat, b = (a' : Int) := ⟨b.toNat, by omega⟩
    obtain ⟨c, rfl⟩ : ∃ a' : Nat, c = (a' : Int) := ⟨c.toNat, by omega⟩
    obtain ⟨d, rfl⟩ : ∃ a' : Nat, d = (a' : Int) := ⟨d.toNat, by omega⟩
    obtain ⟨stamp, rfl⟩ : ∃ a' : Nat, stamp = (a' : Int) := ⟨stamp.toNat, by omega⟩
    obtain ⟨node, rfl⟩ : ∃ a' : Nat, node = (a' : Int) := ⟨node.toNat, by omega⟩
    have hlow : ∀ (x : Int) (i : Nat), 0 ≤ lowB x i ∧ lowB x i < 256 := fun x i => by unfold lowB; omega
    have hB : isBytes (putL [(a : Int), b, c, d] stamp node gone) := by
      rw [putL_eq]
      intro x hx
      simp only [List.mem_cons, List.not_mem_nil, or_false] at hx
      rcases hx with h | h | h | h | h | h | h | h | h | h | h | h | h | h | h | h | h | h | h | h | h | h | h | h | h | h <;> subst h <;> first | exact hlow _ _ | omega
    have hz : (strOfNums (putL [(a : Int), b, c, d] stamp node gone)).size = 26 := by rw [strOfNums_size, putL_eq]; rfl
    have n24 : bt (strOfNums (putL [(a : Int), b, c, d] stamp node gone)) 24 = (node : Int) := by
      have := bt_of hB 24 (lowB (node : Int) 0) (by rw [putL_eq]; rfl)
      rw [lowB_nat node 0 (by omega)] at this
      have e : node / 2 ^ (8 * 0) % 256 = node := by rw [show 2 ^ (8 * 0) = 1 from rfl, Nat.div_one]; omega
      rw [e] at this
      exact this
    have n25 : (bt (strOfNums (putL [(a : Int), b, c, d] stamp node gone)) 25 == 1) = gone := by
      have h25 : bt (strOfNums (putL [(a : Int), b, c, d] stamp node gone)) 25 = lowB (if gone = true then 1 else 0) 0 := bt_of hB 25 _ (by rw [putL_eq]; rfl)
      rw [h25]
      cases gone
      · rfl
      · rfl
    have x0 : (strOfNums (putL [(a : Int), b, c, d] stamp node gone)).extract (4 + 4 * 0) (8 + 4 * 0) = strOfNums (lowL (a : Int) 4) := by rw [str_sub, putL_eq, low4]; rfl
    have x1 : (strOfNums (putL [(a : Int), b, c, d] stamp node gone)).extract (4 + 4 * 1) (8 + 4 * 1) = strOfNums (lowL (b : Int) 4) := by rw [str_sub, putL_eq, low4]; rfl
    have x2 : (strOfNums (putL [(a : Int), b, c, d] stamp node gone)).extract (4 + 4 * 2) (8 + 4 * 2) = strOfNums (lowL (c : Int) 4) := by rw [str_sub, putL_eq, low4]; rfl
    have x3 : (strOfNums (putL [(a : Int), b, c, d] stamp node gone)).extract (4 + 4 * 3) (8 + 4 * 3) = strOfNums (lowL (d : Int) 4) := by rw [str_sub, putL_eq, low4]; rfl
    have x4 : (strOfNums (putL [(a : Int), b, c, d] stamp node gone)).extract 20 24 = strOfNums (lowL (stamp : Int) 4) := by rw [str_sub, putL_eq, low4]; rfl
    have num : ∀ (x k : Nat), x ≤ 1048576 → 10 ≤ k → portageref10_Number.f k (strOfNums (lowL (x : Int) 4)) = some (x : Int) := fun x k hx hk => number_k x 4 (by omega) (lt32 (by omega)) hk
    unfold portageref10_GetExtra.f
    rw [hz, if_pos (by omega), if_pos (by omega), if_pos (by omega), x4, num _ _ (by omega) (by omega), Option.bind_some, if_pos (by omega), if_pos (by omega), n24, n25, w64 (by omega) (by omega)]
    have s0 := refget_step _ hz [] gone stamp node a 0 (by omega) rfl (q + 4) (by rw [x0]; exact num _ _ (by omega) (by omega))
    refine Eq.trans s0 ?_
    rw [
      refget_step _ hz _ gone stamp node b 1 (by omega) rfl (q + 3) (by rw [x1]; exact num _ _ (by omega) (by omega)),
      refget_step _ hz _ gone stamp node c 2 (by omega) rfl (q + 2) (by rw [x2]; exact num _ _ (by omega) (by omega)),
      refget_step _ hz _ gone stamp node d 3 (by omega) rfl (q + 1) (by rw [x3]; exact num _ _ (by omega) (by omega))]
    have := refget_tail (strOfNums (putL [(a : Int), b, c, d] stamp node gone)) [(a : Int), b, c, d] gone stamp node rfl (K := q) (by omega)
    refine this.trans ?_
    unfold fin
    rw [if_pos ⟨hm, rfl⟩]
end Go.Proofs.Ytnjbbfcknijcnaa.X
