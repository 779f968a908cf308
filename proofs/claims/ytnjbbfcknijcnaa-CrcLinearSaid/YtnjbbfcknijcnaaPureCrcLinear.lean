import Derived.Test.YtnjbbfcknijcnaaCrcJC
import Derived.Test.YtnjbbfcknijcnaaC2
namespace Go.Proofs.Ytnjbbfcknijcnaa.Pure
set_option linter.unusedVariables false
set_option linter.unusedSimpArgs false
open Go Go.RowKit Go.Proofs.Ytnjbbfcknijcnaa.C Go.Proofs.YtnjbbfcknijcnaaW.PrintWords Go.Proofs.YtnjbbfcknijcnaaW.PrintLast Go.Proofs.YtnjbbfcknijcnaaW.PrintMore Go.Proofs.Ytnjbbfcknijcnaa
namespace CL
def x3 : List UInt8 → List UInt8 → List UInt8 → List UInt8
  | a :: la, b :: lb, c :: lc => UInt8.ofNat ((a.toNat ^^^ b.toNat) ^^^ c.toNat) :: x3 la lb lc
  | _, _, _ => []
theorem xor_lt8 {a b : Nat} (ha : a < 256) (hb : b < 256) : a ^^^ b < 256 := Nat.xor_lt_two_pow (n := 8) ha hb
theorem x3_nat (a b c : UInt8) : (UInt8.ofNat ((a.toNat ^^^ b.toNat) ^^^ c.toNat)).toNat = (a.toNat ^^^ b.toNat) ^^^ c.toNat :=
  UInt8.toNat_ofNat_of_lt' (xor_lt8 (xor_lt8 a.toNat_lt b.toNat_lt) c.toNat_lt)
theorem fold_x3 : ∀ (la lb lc : List UInt8) (x y z : Nat), la.length = lb.length → lb.length = lc.length → CrcM.fold ((x ^^^ y) ^^^ z) (x3 la lb lc) = (CrcM.fold x la ^^^ CrcM.fold y lb) ^^^ CrcM.fold z lc
  | [], [], [], x, y, z, _, _ => rfl
  | a :: la, b :: lb, c :: lc, x, y, z, h1, h2 => by
    have ih := fold_x3 la lb lc (CrcM.byte x a.toNat) (CrcM.byte y b.toNat) (CrcM.byte z c.toNat) (by simpa using h1) (by simpa using h2)
    show CrcM.fold (CrcM.byte ((x ^^^ y) ^^^ z) (UInt8.ofNat ((a.toNat ^^^ b.toNat) ^^^ c.toNat)).toNat) (x3 la lb lc) = _
    rw [x3_nat, CrcM.byte_xor, CrcM.byte_xor, ih]
    rfl
  | [], _ :: _, _, _, _, _, h, _ => by simp at h
  | _ :: _, [], _, _, _, _, h, _ => by simp at h
  | [], [], _ :: _, _, _, _, _, h => by simp at h
  | _ :: _, _ :: _, [], _, _, _, _, h => by simp at h
theorem x3_at : ∀ (la lb lc : List UInt8) (i : Nat) (ha : i < la.length) (hb : i < lb.length) (hc : i < lc.length), (x3 la lb lc)[i]? = some (UInt8.ofNat ((la[i].toNat ^^^ lb[i].toNat) ^^^ lc[i].toNat))
  | a :: la, b :: lb, c :: lc, 0, _, _, _ => rfl
  | a :: la, b :: lb, c :: lc, i + 1, ha, hb, hc => x3_at la lb lc i (by simpa using ha) (by simpa using hb) (by simpa using hc)
theorem x3_length : ∀ (la lb lc : List UInt8) (n : Nat), la.length = n → lb.length = n → lc.length = n → (x3 la lb lc).length = n
  | [], _, _, n, h, _, _ => by subst h; rfl
  | a :: la, b :: lb, c :: lc, n, h1, h2, h3 => by
    obtain ⟨m, rfl⟩ : ∃ m, n = m + 1 := ⟨n - 1, by simp at h1; omega⟩
    show (x3 la lb lc).length + 1 = m + 1
    rw [x3_length la lb lc m (by simpa using h1) (by simpa using h2) (by simpa using h3)]
  | _ :: _, [], _, n, h1, h2, _ => by simp at h1 h2; omega
  | _ :: _, _ :: _, [], n, h1, _, h3 => by simp at h1 h3; omega
def D (a b c : ByteArray) (i : Nat) : Int := Go.bits .xor .u8 (Go.bits .xor .u8 (bt a (i : Int)) (bt b (i : Int))) (bt c (i : Int))
def Ds (a b c : ByteArray) (k : Nat) : List Int := (List.range k).map (D a b c)
theorem Ds_length (a b c : ByteArray) (k : Nat) : (Ds a b c k).length = k := by simp [Ds]
theorem D_nat (a b c : ByteArray) (i : Nat) (ha : i < a.size) (hb : i < b.size) (hc : i < c.size) : D a b c i = (((a[i].toNat ^^^ b[i].toNat) ^^^ c[i].toNat : Nat) : Int) := by
  unfold D
  rw [bt_nat a i ha, bt_nat b i hb, bt_nat c i hc, u8_xor_nat _ _ a[i].toNat_lt b[i].toNat_lt, u8_xor_nat _ _ (xor_lt8 a[i].toNat_lt b[i].toNat_lt) c[i].toNat_lt]
theorem Ds_str (a b c : ByteArray) (k : Nat) (ha : k ≤ a.size) (hb : k ≤ b.size) (hc : k ≤ c.size) : (strOfNums (Ds a b c k)).data.toList = x3 (a.extract 0 k).data.toList (b.extract 0 k).data.toList (c.extract 0 k).data.toList := by
  have hx : ∀ s : ByteArray, k ≤ s.size → (s.extract 0 k).data.toList.length = k := fun s h => by
    rw [ByteArray.data_extract, Array.toList_extract, List.extract_eq_take_drop]
    have hz : s.data.toList.length = s.size := rfl
    simp only [Nat.sub_zero, List.drop_zero, List.length_take, hz]
    omega
  apply List.ext_getElem?
  intro i
  by_cases hi : i < k
  · rw [x3_at _ _ _ i (by rw [hx a ha]; exact hi) (by rw [hx b hb]; exact hi) (by rw [hx c hc]; exact hi), strOfNums_data, List.getElem?_map]
    unfold Ds
    rw [List.getElem?_map, List.getElem?_range hi]
    have he : ∀ (s : ByteArray) (h : k ≤ s.size), ((s.extract 0 k).data.toList[i]'(by rw [hx s h]; exact hi)) = s[i]'(by omega) := by
      intro s h
      have e : (s.extract 0 k).data.toList = s.data.toList.take k := by
        rw [ByteArray.data_extract, Array.toList_extract, List.extract_eq_take_drop, List.drop_zero, Nat.sub_zero]
      have h2 : (s.extract 0 k).data.toList[i]? = s.data.toList[i]? := by rw [e, List.getElem?_take_of_lt hi]
      have hz : s.data.toList.length = s.size := rfl
      rw [List.getElem?_eq_getElem (by rw [hx s h]; exact hi), List.getElem?_eq_getElem (by omega)] at h2
      injection h2 with h2
    rw [he a ha, he b hb, he c hc]
    show some (UInt8.ofNat (D a b c i).toNat) = _
    rw [D_nat a b c i (by omega) (by omega) (by omega), Int.toNat_natCast]
  · rw [List.getElem?_eq_none (by rw [strOfNums_data, List.length_map, Ds_length]; omega), List.getElem?_eq_none (by rw [x3_length _ _ _ k (hx a ha) (hx b hb) (hx c hc)]; omega)]
theorem joinN_x3 (a b c : ByteArray) (k : Nat) (ha : k ≤ a.size) (hb : k ≤ b.size) (hc : k ≤ c.size) : joinN 0 (strOfNums (Ds a b c k)) = (joinN 0 (a.extract 0 k) ^^^ joinN 0 (b.extract 0 k)) ^^^ joinN 0 (c.extract 0 k) := by
  have hx : ∀ s : ByteArray, k ≤ s.size → (s.extract 0 k).data.toList.length = k := fun s h => by
    rw [ByteArray.data_extract, Array.toList_extract, List.extract_eq_take_drop]
    have hz : s.data.toList.length = s.size := rfl
    simp only [Nat.sub_zero, List.drop_zero, List.length_take, hz]
    omega
  unfold joinN
  rw [Ds_str a b c k ha hb hc]
  have hm : CrcM.compl 0 = (CrcM.compl 0 ^^^ CrcM.compl 0) ^^^ CrcM.compl 0 := by decide
  have hf := fold_x3 (a.extract 0 k).data.toList (b.extract 0 k).data.toList (c.extract 0 k).data.toList (CrcM.compl 0) (CrcM.compl 0) (CrcM.compl 0) (by rw [hx a ha, hx b hb]) (by rw [hx b hb, hx c hc])
  rw [← hm] at hf
  rw [hf]
  generalize CrcM.fold (CrcM.compl 0) (a.extract 0 k).data.toList = p
  generalize CrcM.fold (CrcM.compl 0) (b.extract 0 k).data.toList = q
  generalize CrcM.fold (CrcM.compl 0) (c.extract 0 k).data.toList = r
  simp only [CrcM.compl_eq]
  apply Nat.eq_of_testBit_eq
  intro i
  simp only [Nat.testBit_xor]
  cases CrcM.M.testBit i <;> cases p.testBit i <;> cases q.testBit i <;> cases r.testBit i <;> rfl
theorem xor64 (a b : Nat) (ha : a < 4294967296) (hb : b < 4294967296) : Go.bits .xor .i64 (a : Int) (b : Int) = ((a ^^^ b : Nat) : Int) := by
  have hx := CrcM.xor_lt ha hb
  show IntKind.i64.wrap ((BitVec.ofInt 64 (a : Int) ^^^ BitVec.ofInt 64 (b : Int)).toNat : Nat) = _
  rw [BitVec.toNat_xor, BitVec.toNat_ofInt, BitVec.toNat_ofInt, show ((a : Int) % ((2 ^ 64 : Nat) : Int)).toNat = a from by omega, show ((b : Int) % ((2 ^ 64 : Nat) : Int)).toNat = b from by omega, IntKind.wrap_i64]
  omega
theorem mn_nat (a b : Nat) : mn (a : Int) (b : Int) = ((min a b : Nat) : Int) := by unfold mn; split <;> omega
theorem loop (a b c : ByteArray) (k : Nat) (ha : k ≤ a.size) (hb : k ≤ b.size) (hc : k ≤ c.size) (hk : k ≤ 140737488351232) : ∀ (d i : Nat), i + d = k → ∀ K, 10 * k + d + 2 ≤ K → portagelaw2_CrcLinear.l0 K a b c (k : Int) (Ds a b c i ++ List.replicate d 0) (i : Int) = some true
  | 0, i, hi, K, hK => by
    obtain ⟨q, rfl⟩ : ∃ q, K = q + 1 := ⟨K - 1, by omega⟩
    obtain rfl : i = k := by omega
    have hz : (strOfNums (Ds a b c i)).size = i := by rw [strOfNums_size, Ds_length]
    have hs : ∀ s : ByteArray, i ≤ s.size → (s.extract 0 i).size = i := fun s h => by rw [ByteArray.size_extract]; omega
    have h1 := joinN_lt 0 (a.extract 0 i) (by omega)
    have h2 := joinN_lt 0 (b.extract 0 i) (by omega)
    have h3 := joinN_lt 0 (c.extract 0 i) (by omega)
    rw [portagelaw2_CrcLinear.l0, if_neg (by omega), List.replicate_zero, List.append_nil]
    unfold portagelaw0_Num.f
    rw [Option.bind_some, if_pos rfl, Of_k _ (by omega) (by omega), Option.bind_some, if_pos (by omega), if_pos (by omega), Int.toNat_natCast, Of_k _ (by rw [hs a ha]; omega) (by rw [hs a ha]; omega), Option.bind_some, if_pos (by omega),
      Of_k _ (by rw [hs b hb]; omega) (by rw [hs b hb]; omega), Option.bind_some, if_pos (by omega), Of_k _ (by rw [hs c hc]; omega) (by rw [hs c hc]; omega), Option.bind_some, xor64 _ _ h1 h2, xor64 _ _ (CrcM.xor_lt h1 h2) h3, joinN_x3 a b c i ha hb hc]
    simp
  | d + 1, i, hi, K, hK => by
    obtain ⟨q, rfl⟩ : ∃ q, K = q + 1 := ⟨K - 1, by omega⟩
    have ih := loop a b c k ha hb hc hk d (i + 1) (by omega) q (by omega)
    have hs : (Ds a b c i ++ List.replicate (d + 1) 0).set (i : Int).toNat (D a b c i) = Ds a b c (i + 1) ++ List.replicate d 0 := by
      rw [show ((i : Int)).toNat = i from by omega, List.set_append_right _ _ (by rw [Ds_length]; omega), Ds_length, Nat.sub_self, List.replicate_succ, List.set_cons_zero]
      simp [Ds, List.range_succ]
    rw [portagelaw2_CrcLinear.l0, if_pos (by omega), if_pos (by omega), if_pos (by omega), if_pos (by omega), if_pos (by omega), if_pos (by rw [List.length_append, Ds_length, List.length_replicate]; omega)]
    show portagelaw2_CrcLinear.l0 q a b c (k : Int) ((Ds a b c i ++ List.replicate (d + 1) 0).set (i : Int).toNat (D a b c i)) _ = _
    rw [hs, w1 (n := k) (by omega) (by omega)]
    exact ih
end CL
open CL in
theorem CrcLinear : portagelaw2_CrcLinear.Pure := by
  intro a b c ha hb hc
  obtain ⟨k, hk⟩ : ∃ k, k = min (min a.size b.size) c.size := ⟨_, rfl⟩
  refine ⟨10 * k + k + 200, ?_⟩
  unfold portagelaw2_CrcLinear.f
  rw [awake_true (by omega), Option.bind_some, if_pos rfl, mn_nat, mn_nat, ← hk, if_pos (by omega), Int.toNat_natCast, if_pos (by omega)]
  have := loop a b c k (by omega) (by omega) (by omega) (by omega) k 0 (by omega) (10 * k + k + 200) (by omega)
  exact this
end Go.Proofs.Ytnjbbfcknijcnaa.Pure
