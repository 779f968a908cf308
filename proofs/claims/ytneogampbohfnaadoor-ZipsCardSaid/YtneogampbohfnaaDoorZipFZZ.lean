/- The document's archives: what portageref10's functions answer. -/
import Derived.Test.YtneogampbohfnaaDoorZipEZZ
import Derived.Test.YtneogampbohfnaaDoorZZ0
import Derived.Test.YtneogampbohfnaaDoorZZ12
import Derived.Test.YtneogampbohfnaaDoorZipU
import Derived.Test.YtneogampbohfnaaDoorBits
namespace Go.Proofs.YtneogampbohfnaaDoor.ZZ
set_option linter.unusedVariables false
set_option linter.unusedSimpArgs false
open Go.RowKit Go.Proofs.YtneogampbohfnaaDoorW.PrintWords Go.Proofs.YtneogampbohfnaaDoorW.PrintLast Go.Proofs.YtneogampbohfnaaDoorW.PrintMore Go.Proofs.YtneogampbohfnaaDoor.ZB
theorem mayE_parts {v : List Int} {stamp node : Int} (h : mayE v stamp node = true) : v.length = 4 ∧ (∀ x ∈ v, 0 ≤ x ∧ x ≤ 1048576) ∧ (1 ≤ stamp ∧ stamp ≤ 1048576) ∧ (0 ≤ node ∧ node < 4) := by
  unfold mayE vok okc nodeOk at h
  simp only [Bool.and_eq_true, decide_eq_true_eq, List.all_eq_true] at h
  obtain ⟨⟨h1, h2⟩, h3, h4, h5⟩ := h
  exact ⟨h1, fun x hx => h2 x hx, ⟨h3, h4.2⟩, h5⟩
theorem vecmay_l0 (l : List Int) (hl : l.length ≤ 4611686018427387904) : ∀ (d i : Nat), i + d = l.length → ∀ K, d + 1 ≤ K → pr_VecMay.l0 K l (i : Int) = some ((l.drop i).all okc && decide (l.length = 4))
  | 0, i, hi, K, hK => by
    obtain ⟨q, rfl⟩ : ∃ q, K = q + 1 := ⟨K - 1, by omega⟩
    rw [pr_VecMay.l0, if_neg (by omega), List.drop_eq_nil_of_le (by omega)]
    congr 1
    by_cases h : l.length = 4
    · simp [h]
    · have : ¬ ((l.length : Int) = 4) := by omega
      simp [h, this]
  | d + 1, i, hi, K, hK => by
    obtain ⟨q, rfl⟩ : ∃ q, K = q + 1 := ⟨K - 1, by omega⟩
    have ih := vecmay_l0 l hl d (i + 1) (by omega) q (by omega)
    rw [pr_VecMay.l0, if_pos (by omega), if_pos (by omega), rd_drop l i (by omega), List.all_cons]
    by_cases h0 : rd l (i : Int) < 0
    · rw [if_pos h0]
      have : okc (rd l (i : Int)) = false := by unfold okc; simp; omega
      rw [this]; rfl
    · rw [if_neg h0]
      by_cases h1 : rd l (i : Int) > 1048576
      · rw [if_pos h1]
        have : okc (rd l (i : Int)) = false := by unfold okc; simp; omega
        rw [this]; rfl
      · rw [if_neg h1, w64 (by omega) (by omega)]
        have : okc (rd l (i : Int)) = true := by unfold okc; simp; omega
        rw [this, Bool.true_and]
        exact ih
theorem refmay_k (a : ByteArray) (b : Bool) (v : List Int) (stamp node m : Int) (p : ByteArray) (z c : Int) (hl : v.length ≤ 4611686018427387904) {k : Nat} (hk : v.length + 1 ≤ k) : pr_headMay.f k a b v stamp node m p z c = some (mayE v stamp node) := by
  have h := vecmay_l0 v hl v.length 0 (by omega) k hk
  unfold pr_headMay.f pr_VecMay.f mayE vok okc nodeOk
  have h : pr_VecMay.l0 k v 0 = _ := h
  rw [h, Option.bind_some, List.drop_zero, Bool.and_comm]
  unfold okc
  by_cases h1 : (decide (v.length = 4) && v.all fun n => decide (0 ≤ n) && decide (n ≤ 1048576)) = true
  · rw [if_pos h1, h1]
    by_cases h2 : stamp ≥ 1
    · rw [if_pos h2]
      by_cases h3 : stamp ≤ 1048576
      · rw [if_pos h3]
        by_cases h4 : node ≥ 0
        · rw [if_pos h4]
          have : 0 ≤ stamp := by omega
          simp [show 1 ≤ stamp from h2, h3, show 0 ≤ node from h4, this]
        · rw [if_neg h4]
          simp [show ¬ 0 ≤ node from h4]
      · rw [if_neg h3]
        simp [h3]
    · rw [if_neg h2]
      simp [show ¬ 1 ≤ stamp from h2]
  · rw [if_neg h1]
    rw [show (decide (v.length = 4) && v.all fun n => decide (0 ≤ n) && decide (n ≤ 1048576)) = false from by simpa using h1]
    rfl
theorem bytes_l0 (x : Int) (n : Nat) (hn : n ≤ 8) : ∀ (d i : Nat), i + d = n → ∀ K, d + 1 ≤ K → pr_Bytes.l0 K x (n : Int) (lowL x i) (i : Int) = some (strOfNums (lowL x n))
  | 0, i, hi, K, hK => by
    obtain ⟨m, rfl⟩ : ∃ m, K = m + 1 := ⟨K - 1, by omega⟩
    rw [pr_Bytes.l0, if_neg (by omega), show i = n from by omega]
  | d + 1, i, hi, K, hK => by
    obtain ⟨m, rfl⟩ : ∃ m, K = m + 1 := ⟨K - 1, by omega⟩
    have ih := bytes_l0 x n hn d (i + 1) (by omega) m (by omega)
    have hs : lowL x i ++ [lowB x i] = lowL x (i + 1) := by simp [lowL, List.range_succ]
    rw [pr_Bytes.l0, if_pos (by omega), w64 (n := 8 * (i : Int)) (by omega) (by omega), if_pos (by omega), if_pos (by rw [lowL_length]; omega),
      show (8 * (i : Int)) = ((8 * i : Nat) : Int) from by omega]
    show pr_Bytes.l0 m x (n : Int) (lowL x i ++ [lowB x i]) _ = _
    rw [hs, w64 (by omega) (by omega), show (i : Int) + 1 = ((i + 1 : Nat) : Int) from by omega]
    exact ih
theorem bytes_k (x : Int) (n : Nat) (hn : n ≤ 8) {k : Nat} (hk : 10 ≤ k) : pr_Bytes.f k x (n : Int) = some (strOfNums (lowL x n)) := by
  unfold pr_Bytes.f
  exact bytes_l0 x n hn n 0 (by omega) k (by omega)
theorem refput_l0 (a : ByteArray) (b : Bool) (v : List Int) (stamp node m : Int) (p : ByteArray) (z c : Int) (hv : v.length ≤ 4) : ∀ (d i : Nat) (acc : List Int), i + d = v.length → acc.length + 4 * d ≤ 1000 → ∀ K, 20 + d ≤ K →
    pr_PutExtra.l0 K (strOfNums acc) (i : Int) a b v stamp node m p z c = some (strOfNums (acc ++ (v.drop i).flatMap (fun x => lowL x 4) ++ endL stamp node b), 0)
  | 0, i, acc, hi, ha, K, hK => by
    obtain ⟨q, rfl⟩ : ∃ q, K = q + 1 := ⟨K - 1, by omega⟩
    have e4 : pr_Bytes.f q stamp 4 = some (strOfNums (lowL stamp 4)) := bytes_k stamp 4 (by omega) (by omega)
    have e1 : ∀ x, pr_Bytes.f q x 1 = some (strOfNums (lowL x 1)) := fun x => bytes_k x 1 (by omega) (by omega)
    rw [pr_PutExtra.l0, if_neg (by omega), List.drop_eq_nil_of_le (by omega), List.flatMap_nil, List.append_nil]
    have l4 := lowL_length stamp 4
    have l1 := fun x => lowL_length x 1
    cases b
    · rw [if_neg (by decide), e4, Option.bind_some, if_pos (by rw [strOfNums_size, strOfNums_size]; omega), e1, Option.bind_some, ← strs_append, if_pos (by rw [strOfNums_size, strOfNums_size, List.length_append, l1]; omega), e1, Option.bind_some, ← strs_append,
        if_pos (by rw [strOfNums_size, strOfNums_size, List.length_append, List.length_append, l1, l1]; omega), ← strs_append]
      simp [endL, List.append_assoc]
    · rw [if_pos rfl, e4, Option.bind_some, if_pos (by rw [strOfNums_size, strOfNums_size]; omega), e1, Option.bind_some, ← strs_append, if_pos (by rw [strOfNums_size, strOfNums_size, List.length_append, l1]; omega), e1, Option.bind_some, ← strs_append,
        if_pos (by rw [strOfNums_size, strOfNums_size, List.length_append, List.length_append, l1, l1]; omega), ← strs_append]
      simp [endL, List.append_assoc]
  | d + 1, i, acc, hi, ha, K, hK => by
    obtain ⟨q, rfl⟩ : ∃ q, K = q + 1 := ⟨K - 1, by omega⟩
    have e4 : pr_Bytes.f q (rd v (i : Int)) 4 = some (strOfNums (lowL (rd v (i : Int)) 4)) := bytes_k _ 4 (by omega) (by omega)
    have l4 := lowL_length (rd v (i : Int)) 4
    have ih := refput_l0 a b v stamp node m p z c hv d (i + 1) (acc ++ lowL (rd v (i : Int)) 4) (by omega) (by rw [List.length_append]; omega) q (by omega)
    rw [pr_PutExtra.l0, if_pos (by omega), if_pos (by omega), e4, Option.bind_some, if_pos (by rw [strOfNums_size, strOfNums_size]; omega), ← strs_append, w64 (by omega) (by omega), show (i : Int) + 1 = ((i + 1 : Nat) : Int) from by omega, ih, rd_drop v i (by omega)]
    simp [List.append_assoc]
theorem refput_k (a : ByteArray) (b : Bool) (v : List Int) (stamp node m : Int) (p : ByteArray) (z c : Int) (hl : v.length ≤ 4611686018427387904) {k : Nat} (hk : 40 + v.length ≤ k) : pr_PutExtra.f k a b v stamp node m p z c = some (if mayE v stamp node = true then (strOfNums (putL v stamp node b), 0) else (⟨#[]⟩, 1200)) := by
  unfold pr_PutExtra.f
  rw [refmay_k _ _ _ _ _ _ _ _ _ hl (by omega), Option.bind_some]
  by_cases h : mayE v stamp node = true
  · have hv : v.length = 4 := (mayE_parts h).1
    have e2 : ∀ x, pr_Bytes.f k x 2 = some (strOfNums (lowL x 2)) := fun x => bytes_k x 2 (by omega) (by omega)
    rw [if_pos h, if_pos h, e2, Option.bind_some, e2, Option.bind_some, if_pos (by rw [strOfNums_size, strOfNums_size, lowL_length, lowL_length]; omega), ← strs_append]
    have := refput_l0 a b v stamp node m p z c (by omega) v.length 0 (lowL 20592 2 ++ lowL 22 2) (by omega) (by rw [List.length_append, lowL_length, lowL_length]; omega) k (by omega)
    rw [List.drop_zero] at this
    exact this
  · rw [if_neg h, if_neg h]
/-- One byte of a name, as the document asks. -/
def okr (c : Int) : Bool := if c < 97 then (if c < 48 then (c == 46 || c == 45 || c == 95) else if c > 57 then (c == 46 || c == 45 || c == 95) else true) else if c > 122 then (if c < 48 then (c == 46 || c == 45 || c == 95) else if c > 57 then (c == 46 || c == 45 || c == 95) else true) else true
theorem okr_at : ∀ n : Fin 256, ofs.contains (UInt8.ofNat n.val) = okr (n.val : Int) := by decide +kernel
theorem okr_eq (b : UInt8) : ofs.contains b = okr (b.toNat : Int) := by
  have h := okr_at ⟨b.toNat, by have := UInt8.toNat_lt b; omega⟩
  have e : UInt8.ofNat b.toNat = b := by simp
  rw [show (UInt8.ofNat (⟨b.toNat, by have := UInt8.toNat_lt b; omega⟩ : Fin 256).val) = b from e] at h
  exact h
theorem bt_at (s : ByteArray) (i : Nat) (h : i < s.size) : ∃ b, s.data.toList[i]? = some b ∧ bt s (i : Int) = (b.toNat : Int) := by
  refine ⟨s[i], ?_, ?_⟩
  · rw [Array.getElem?_toList, Array.getElem?_eq_getElem (by exact h)]; rfl
  · unfold bt
    rw [dif_pos (by rw [Int.toNat_natCast]; exact h)]
    rfl
theorem step_round (c : Int) (A : Option Bool) : (if c < 97 then (if c < 48 then (if c = 46 then A else (if c = 45 then A else (if c = 95 then A else (some false)))) else (if c > 57 then (if c = 46 then A else (if c = 45 then A else (if c = 95 then A else (some false)))) else A)) else (if c > 122 then (if c < 48 then (if c = 46 then A else (if c = 45 then A else (if c = 95 then A else (some false)))) else (if c > 57 then (if c = 46 then A else (if c = 45 then A else (if c = 95 then A else (some false)))) else A)) else A)) = if okr c = true then A else some false := by
  unfold okr
  (repeat' split) <;> simp_all <;> omega
theorem ref_loop (s : ByteArray) (hs : s.size ≤ 8) : ∀ (d i : Nat), i + d = s.size → ∀ K, d + 1 ≤ K → pr_NameMay.l0 K s (i : Int) = some ((s.data.toList.drop i).all (ofs.contains ·))
  | 0, i, hi, K, hK => by
    obtain ⟨m, rfl⟩ : ∃ m, K = m + 1 := ⟨K - 1, by omega⟩
    have hl := size_list s
    rw [pr_NameMay.l0, if_neg (by omega), List.drop_eq_nil_of_le (by omega)]
    rfl
  | d + 1, i, hi, K, hK => by
    obtain ⟨m, rfl⟩ : ∃ m, K = m + 1 := ⟨K - 1, by omega⟩
    have hl := size_list s
    obtain ⟨b, hb, hv⟩ := bt_at s i (by omega)
    have ih := ref_loop s hs d (i + 1) (by omega) m (by omega)
    have hw : wrap64 ((i : Int) + 1) = ((i + 1 : Nat) : Int) := by unfold wrap64; omega
    rw [pr_NameMay.l0, if_pos (by omega), if_pos (by omega), hw, ih, hv, step_round]
    obtain ⟨h1, h2⟩ := List.getElem?_eq_some_iff.mp hb
    rw [List.drop_eq_getElem_cons h1, h2, List.all_cons, okr_eq]
    cases okr (b.toNat : Int) <;> simp
theorem ref_eq (s : ByteArray) (K : Nat) (hK : 20 ≤ K) : pr_NameMay.f K s = some (nm s.data.toList) := by
  obtain ⟨m, rfl⟩ : ∃ m, K = m + 1 := ⟨K - 1, by omega⟩
  have hl := size_list s
  unfold pr_NameMay.f nm
  rw [Lib.toList_data]
  have jt : pr_NameMay.j0 (m + 1) s true = some false := by rw [pr_NameMay.j0, if_pos rfl]
  by_cases h1 : (s.size : Int) < 1
  · rw [if_pos h1, jt, decide_eq_false (p := 1 ≤ s.data.toList.length) (by omega), Bool.false_and]
  · rw [if_neg h1, decide_eq_true (p := 1 ≤ s.data.toList.length) (by omega), Bool.true_and]
    by_cases h2 : (s.size : Int) > 8
    · rw [if_pos h2, jt, decide_eq_false (p := s.data.toList.length ≤ 8) (by omega), Bool.false_and]
    · rw [if_neg h2, decide_eq_true (p := s.data.toList.length ≤ 8) (by omega), Bool.true_and]
      by_cases h3 : s.data.toList = [46]
      · rw [if_pos h3, jt, decide_eq_false (p := s.data.toList ≠ [46]) (by simpa using h3), Bool.false_and, Bool.and_false]
      · rw [if_neg h3, decide_eq_true (p := s.data.toList ≠ [46]) h3, Bool.true_and]
        by_cases h4 : s.data.toList = [46, 46]
        · rw [show (s.data.toList == [46, 46]) = true from by rw [beq_iff_eq]; exact h4, jt, decide_eq_false (p := s.data.toList ≠ [46, 46]) (by simpa using h4), Bool.and_false]
        · rw [show (s.data.toList == [46, 46]) = false from by rw [beq_eq_false_iff_ne]; exact h4, pr_NameMay.j0, if_neg (by decide), decide_eq_true (p := s.data.toList ≠ [46, 46]) h4, Bool.and_true]
          exact ref_loop s (by omega) s.size 0 (by omega) m (by omega)
/-- May an entry be held? -/
def heldL (x : S39) : Bool := nm x.f0.data.toList && (mayE x.f2 x.f3 x.f4 && ZipW.content x)
theorem held_j (x : S39) (b : Bool) (K : Nat) : pr_heldMay.j0 (K + 1) (!b) x.f0 x.f1 x.f2 x.f3 x.f4 x.f5 x.f6 x.f7 x.f8 = some (b && ZipW.content x) := by
  obtain ⟨x0, x1, x2, x3, x4, x5, x6, x7, x8⟩ := x
  rw [pr_heldMay.j0]
  unfold ZipW.content ZipW.kept
  dsimp only
  cases b
  · rw [if_pos (by decide)]; rfl
  · rw [if_neg (by decide), Bool.true_and]
    have he := ZipW.empty_iff x6
    by_cases h1 : x1 = true
    · rw [if_pos h1, if_pos h1]
      by_cases h5 : x5 = 0
      · rw [if_pos h5, decide_eq_true h5]
        by_cases h6 : x6.toList = ([] : List UInt8)
        · rw [if_pos h6, decide_eq_true (he.1 h6)]
          by_cases h7 : x7 = 0
          · rw [if_pos h7, decide_eq_true h7]
            congr 1
          · rw [if_neg h7, decide_eq_false h7]; simp
        · rw [if_neg h6, decide_eq_false (p := x6.size = 0) (fun e => h6 (he.2 e))]; simp
      · rw [if_neg h5, decide_eq_false h5]; simp
    · rw [if_neg h1, if_neg h1]
      by_cases a1 : x7 < 0
      · rw [if_pos a1, decide_eq_false (p := 0 ≤ x7) (by omega)]; simp
      · rw [if_neg a1, decide_eq_true (p := 0 ≤ x7) (by omega)]
        by_cases a2 : x7 > 300
        · rw [if_pos a2, decide_eq_false (p := x7 ≤ 300) (by omega)]; simp
        · rw [if_neg a2, decide_eq_true (p := x7 ≤ 300) (by omega)]
          by_cases a3 : x8 < 0
          · rw [if_pos a3, decide_eq_false (p := 0 ≤ x8) (by omega)]; simp
          · rw [if_neg a3, decide_eq_true (p := 0 ≤ x8) (by omega)]
            by_cases a4 : x8 > 4294967295
            · rw [if_pos a4, decide_eq_false (p := x8 ≤ 4294967295) (by omega)]; simp
            · rw [if_neg a4, decide_eq_true (p := x8 ≤ 4294967295) (by omega)]
              by_cases a5 : x5 = 0
              · rw [if_pos a5, if_pos a5]
                by_cases a6 : (x6.size : Int) = x7
                · rw [if_pos a6, decide_eq_true a6]; rfl
                · rw [if_neg a6, if_neg (by omega), decide_eq_false a6]; rfl
              · rw [if_neg a5, if_neg a5]
                by_cases a6 : x5 = 8
                · rw [if_pos a6, if_pos a6]
                  congr 1
                  by_cases a7 : (x6.size : Int) ≤ 300
                  · rw [decide_eq_true a7, decide_eq_true (p := x6.size ≤ 300) (by omega)]; rfl
                  · rw [decide_eq_false a7, decide_eq_false (p := x6.size ≤ 300) (by omega)]; rfl
                · rw [if_neg a6, if_neg a6]
theorem held_k (x : S39) (hx : x.f2.length ≤ 4611686018427387904) {K : Nat} (hK : x.f2.length + 30 ≤ K) : pr_heldMay.f K x.f0 x.f1 x.f2 x.f3 x.f4 x.f5 x.f6 x.f7 x.f8 = some (heldL x) := by
  obtain ⟨m, rfl⟩ : ∃ m, K = m + 1 := ⟨K - 1, by omega⟩
  unfold pr_heldMay.f heldL
  rw [ref_eq x.f0 _ (by omega), Option.bind_some, refmay_k _ _ _ _ _ _ _ _ _ hx (by omega)]
  cases h : nm x.f0.data.toList
  · rw [if_neg (by decide)]
    exact held_j x false m
  · rw [if_pos rfl, Option.bind_some]
    exact held_j x (mayE x.f2 x.f3 x.f4) m
theorem may_l0 (l : List S39) (L : Nat) (hl : l.length ≤ 4611686018427387904) (hL : L ≤ 4611686018427387904) (hx : ∀ x ∈ l, x.f2.length ≤ L) : ∀ (d i : Nat), i + d = l.length → ∀ K, L + d + 40 ≤ K →
    pr_WriteMay.l0 K (i : Int) l = some ((List.range' i d).all (ZipW.mayAt l))
  | 0, i, hi, K, hK => by
    obtain ⟨q, rfl⟩ : ∃ q, K = q + 1 := ⟨K - 1, by omega⟩
    rw [pr_WriteMay.l0, if_neg (by omega)]
    rfl
  | d + 1, i, hi, K, hK => by
    obtain ⟨q, rfl⟩ : ∃ q, K = q + 1 := ⟨K - 1, by omega⟩
    have hb := hx _ (mem_T39 l i (by omega))
    have ih := may_l0 l L hl hL hx d (i + 1) (by omega) q (by omega)
    have hw : wrap64 ((i : Int) + 1) = ((i + 1 : Nat) : Int) := by unfold wrap64; omega
    rw [pr_WriteMay.l0, if_pos (by omega), if_pos (by omega), held_k _ (by omega) (by omega), Option.bind_some, hw, ih, List.range'_succ, List.all_cons]
    have e : ZipW.mayAt l i = (heldL (rd_T39 l (i : Int)) && (decide (i = 0) || ZipW.rises l i)) := by
      unfold ZipW.mayAt heldL
      cases nm (rd_T39 l (i : Int)).f0.data.toList <;> cases mayE (rd_T39 l (i : Int)).f2 (rd_T39 l (i : Int)).f3 (rd_T39 l (i : Int)).f4 <;> cases ZipW.content (rd_T39 l (i : Int)) <;> simp
    rw [e]
    cases hh : heldL (rd_T39 l (i : Int))
    · rw [if_neg (by decide)]; simp
    · rw [if_pos rfl, Bool.true_and]
      by_cases h0 : i = 0
      · rw [if_neg (by omega), decide_eq_true h0]; simp
      · have hw1 : wrap64 ((i : Int) - 1) = (i : Int) - 1 := by unfold wrap64; omega
        rw [if_pos (by omega), hw1, if_pos (by omega), if_pos (by omega), decide_eq_false h0, Bool.false_or]
        unfold ZipW.rises
        cases Op.bytesLess (rd_T39 l ((i : Int) - 1)).f0.toList (rd_T39 l (i : Int)).f0.toList
        · rw [if_neg (by decide)]; rfl
        · rw [if_pos rfl]; rfl
theorem may_k39 (l : List S39) (L : Nat) (hl : l.length ≤ 4611686018427387904) (hL : L ≤ 4611686018427387904) (hx : ∀ x ∈ l, x.f2.length ≤ L) {K : Nat} (hK : L + l.length + 40 ≤ K) : pr_WriteMay.f K l = some (ZipW.mayL l) := by
  unfold pr_WriteMay.f ZipW.mayL
  by_cases h : (l.length : Int) > 6
  · rw [if_pos h, decide_eq_false (p := l.length ≤ 6) (by omega), Bool.and_false]
  · rw [if_neg h, decide_eq_true (p := l.length ≤ 6) (by omega), Bool.and_true, List.range_eq_range']
    exact may_l0 l L hl hL hx l.length 0 (by omega) K (by omega)
theorem size_l0 (l : List S39) (h : ZipW.mayL l = true) : ∀ (d i : Nat), i + d = l.length → ∀ K, d + 1 ≤ K → pr_Size.l0 K (ZipW.sizeTo l i : Int) (i : Int) l = some (ZipW.sizeL l : Int)
  | 0, i, hi, K, hK => by
    obtain ⟨q, rfl⟩ : ∃ q, K = q + 1 := ⟨K - 1, by omega⟩
    have hi' : i = l.length := by omega
    subst hi'
    rw [pr_Size.l0, if_neg (by omega)]
    rfl
  | d + 1, i, hi, K, hK => by
    obtain ⟨q, rfl⟩ : ∃ q, K = q + 1 := ⟨K - 1, by omega⟩
    have hsm := ZipW.small_of h
    have hn := hsm.n
    have ha := hsm.a i (by omega)
    have hz := ZipW.sizeTo_le hsm i (by omega)
    have hz4 : ZipW.sizeTo l i ≤ 4000 := by omega
    have ih := size_l0 l h d (i + 1) (by omega) q (by omega)
    have hw : wrap64 ((i : Int) + 1) = ((i + 1 : Nat) : Int) := by unfold wrap64; omega
    rw [pr_Size.l0, if_pos (by omega), if_pos (by omega), hw]
    have e : wrap64 ((wrap64 ((wrap64 ((wrap64 ((ZipW.sizeTo l i : Int) + 76)) + (wrap64 (2 * (((rd_T39 l (i : Int)).f0).size : Int))))) + 52)) + (((rd_T39 l (i : Int)).f6).size : Int)) = (ZipW.sizeTo l (i + 1) : Int) := by
      rw [ZipW.sizeTo]
      generalize ZipW.sizeTo l i = a at *
      generalize (rd_T39 l (i : Int)).f0.size = b at *
      generalize (rd_T39 l (i : Int)).f6.size = c at *
      clear hK hi h hz hn ih hw
      unfold wrap64
      omega
    rw [e]
    exact ih
theorem size_k39 (l : List S39) (L : Nat) (hl : l.length ≤ 4611686018427387904) (hL : L ≤ 4611686018427387904) (hx : ∀ x ∈ l, x.f2.length ≤ L) {K : Nat} (hK : L + l.length + 40 ≤ K) : pr_Size.f K l = some (ZipW.sizeR l) := by
  unfold pr_Size.f ZipW.sizeR
  rw [may_k39 l L hl hL hx hK, Option.bind_some]
  by_cases h : ZipW.mayL l = true
  · rw [if_pos h, if_pos h]
    exact size_l0 l h l.length 0 (by omega) K (by omega)
  · rw [if_neg h, if_neg h]
theorem low_size (x : Int) (n : Nat) : (strOfNums (lowL x n)).size = n := by rw [strOfNums_size, lowL_length]
theorem numsB_cons (n : Nat) (x : Int) (xs : List Int) : ZipW.numsB n (x :: xs) = strOfNums (lowL x n) ++ ZipW.numsB n xs := by
  unfold ZipW.numsB
  rw [ZipW.numsL_cons, strs_append]
theorem numsB_none (n : Nat) : ZipW.numsB n [] = (⟨#[]⟩ : ByteArray) := rfl
theorem common_k (x : S39) (h0 : x.f0.size ≤ 9000000000000000000) {K : Nat} (hK : 10 ≤ K) : pr_common.f K x.f0 x.f1 x.f2 x.f3 x.f4 x.f5 x.f6 x.f7 x.f8 = some (ZipW.commonB x) := by
  have e2 : ∀ y, pr_Bytes.f K y 2 = some (strOfNums (lowL y 2)) := fun y => bytes_k y 2 (by omega) hK
  have e4 : ∀ y, pr_Bytes.f K y 4 = some (strOfNums (lowL y 4)) := fun y => bytes_k y 4 (by omega) hK
  unfold pr_common.f
  simp only [e2, e4, Option.bind_some, ByteArray.size_append, low_size]
  unfold ZipW.commonB
  simp only [numsB_cons, numsB_none, ZipW.app_nil, ZipW.app_assoc]
  rfl
theorem zero4 : strOfNums (lowL 0 4) = strOfNums (lowL 0 2) ++ strOfNums (lowL 0 2) := by decide +kernel
theorem zero6 : strOfNums (lowL 0 6) = strOfNums (lowL 0 2) ++ (strOfNums (lowL 0 2) ++ strOfNums (lowL 0 2)) := by decide +kernel
theorem put_k39 (x : S39) (h : mayE x.f2 x.f3 x.f4 = true) {K : Nat} (hK : 50 ≤ K) : pr_PutExtra.f K x.f0 x.f1 x.f2 x.f3 x.f4 x.f5 x.f6 x.f7 x.f8 = some (ZipW.headB x, 0) := by
  have hv := (mayE_parts h).1
  rw [refput_k _ _ _ _ _ _ _ _ _ (by omega) (by omega), if_pos h]
  unfold ZipW.headB
  rw [if_pos h]
theorem pk56 : (⟨#[80, 75, 5, 6]⟩ : ByteArray).size = 4 := rfl
theorem pk12 : (⟨#[80, 75, 1, 2]⟩ : ByteArray).size = 4 := rfl
theorem pk34 : (⟨#[80, 75, 3, 4]⟩ : ByteArray).size = 4 := rfl
theorem zip_end (F B : ByteArray) (l : List S39) (hs : F.size + B.size ≤ 5000) (K : Nat) (hK : 10 ≤ K) : pr_PutZip.l0 (K + 1) F B (l.length : Int) l = some (F ++ B ++ ⟨#[80, 75, 5, 6]⟩ ++ ZipW.numsB 2 [0, 0, (l.length : Int), (l.length : Int)] ++ ZipW.numsB 4 [(B.size : Int), (F.size : Int)] ++ ZipW.numsB 2 [0], 0) := by
  have e2 : ∀ y, pr_Bytes.f K y 2 = some (strOfNums (lowL y 2)) := fun y => bytes_k y 2 (by omega) hK
  have e4 : ∀ y, pr_Bytes.f K y 4 = some (strOfNums (lowL y 4)) := fun y => bytes_k y 4 (by omega) hK
  rw [pr_PutZip.l0, if_neg (by omega)]
  simp only [e2, e4, Option.bind_some, ByteArray.size_append, low_size, pk56]
  repeat rw [if_pos (by omega)]
  simp only [numsB_cons, numsB_none, ZipW.app_nil, ZipW.app_assoc, zero4]
theorem zip_step (F B : ByteArray) (l : List S39) (i : Nat) (hi : i < l.length) (hl : l.length ≤ 6) (x : S39) (hx : rd_T39 l (i : Int) = x) (hm : mayE x.f2 x.f3 x.f4 = true) (hh : (ZipW.headB x).size = 26) (h0 : x.f0.size ≤ 8) (h6 : x.f6.size ≤ 300) (hs : F.size + B.size ≤ 5000) (K : Nat) (hK : 60 ≤ K) :
    pr_PutZip.l0 (K + 1) F B (i : Int) l = pr_PutZip.l0 K (F ++ ⟨#[80, 75, 3, 4]⟩ ++ ZipW.commonB x ++ ZipW.namesB x ++ x.f6) (B ++ ⟨#[80, 75, 1, 2]⟩ ++ ZipW.numsB 2 [20] ++ ZipW.commonB x ++ ZipW.numsB 2 [0, 0, 0] ++ ZipW.numsB 4 [0, (F.size : Int)] ++ ZipW.namesB x) ((i + 1 : Nat) : Int) l := by
  have e2 : ∀ y, pr_Bytes.f K y 2 = some (strOfNums (lowL y 2)) := fun y => bytes_k y 2 (by omega) (by omega)
  have e4 : ∀ y, pr_Bytes.f K y 4 = some (strOfNums (lowL y 4)) := fun y => bytes_k y 4 (by omega) (by omega)
  have e6 : ∀ y, pr_Bytes.f K y 6 = some (strOfNums (lowL y 6)) := fun y => bytes_k y 6 (by omega) (by omega)
  have ec := common_k x (by omega) (K := K) (by omega)
  have ep := put_k39 x hm (K := K) (by omega)
  have hw : wrap64 ((i : Int) + 1) = ((i + 1 : Nat) : Int) := by unfold wrap64; omega
  have cs := ZipW.commonB_size x
  rw [pr_PutZip.l0, if_pos (by omega), if_pos (by omega), hx, hw]
  simp only [e2, e4, e6, ec, ep, Option.bind_some, ByteArray.size_append, low_size, pk12, pk34, cs, hh]
  repeat rw [if_pos (by omega)]
  unfold ZipW.namesB
  simp only [numsB_cons, numsB_none, ZipW.app_nil, ZipW.app_assoc, zero6]
theorem zip_l0 (l : List S39) (h : ZipW.mayL l = true) (hz : ZipW.sizeL l ≤ 4096) : ∀ (d i : Nat), i + d = l.length → ∀ K, d + 70 ≤ K → pr_PutZip.l0 K (ZipW.frontTo l i) (ZipW.behindTo l i) (i : Int) l = some (ZipW.zipL l, 0)
  | 0, i, hi, K, hK => by
    obtain ⟨q, rfl⟩ : ∃ q, K = q + 1 := ⟨K - 1, by omega⟩
    have hi' : i = l.length := by omega
    subst hi'
    have hp := ZipW.parts_size l (ZipW.heads_of h) l.length (Nat.le_refl _)
    have hz' : ZipW.sizeTo l l.length ≤ 4096 := hz
    rw [zip_end _ _ l (by omega) q (by omega)]
    rfl
  | d + 1, i, hi, K, hK => by
    obtain ⟨q, rfl⟩ : ∃ q, K = q + 1 := ⟨K - 1, by omega⟩
    have hsm := ZipW.small_of h
    have hp := ZipW.parts_size l (ZipW.heads_of h) i (by omega)
    have hzz := ZipW.sizeTo_le hsm i (by omega)
    have hn := hsm.n
    have ha := hsm.a i (by omega)
    have hf := (ZipW.fit_of h i (by omega)).head
    have ih := zip_l0 l h hz d (i + 1) (by omega) q (by omega)
    rw [zip_step _ _ l i (by omega) hn _ rfl hf (ZipW.heads_of h i (by omega)) ha.1 ha.2 (by omega) q (by omega)]
    rw [ZipW.frontTo, ZipW.behindTo] at ih
    exact ih
theorem zip_k39 (l : List S39) (L : Nat) (hl : l.length ≤ 4611686018427387904) (hL : L ≤ 4611686018427387904) (hx : ∀ x ∈ l, x.f2.length ≤ L) {K : Nat} (hK : L + l.length + 100 ≤ K) : pr_PutZip.f K l = some (ZipW.putR l) := by
  unfold pr_PutZip.f ZipW.putR
  rw [may_k39 l L hl hL hx (by omega), Option.bind_some]
  by_cases h : ZipW.mayL l = true
  · rw [if_pos h, if_pos h, size_k39 l L hl hL hx (by omega), Option.bind_some]
    unfold ZipW.sizeR
    rw [if_pos h]
    by_cases h2 : 4096 < ZipW.sizeL l
    · rw [if_pos (by omega), if_pos h2]
    · rw [if_neg (by omega), if_neg h2]
      exact zip_l0 l h (Nat.le_of_not_lt h2) l.length 0 (by omega) K (by omega)
  · rw [if_neg h, if_neg h]
end Go.Proofs.YtneogampbohfnaaDoor.ZZ
