/- Numbers read out of a text, and pieces of an archive. -/
import Derived.Test.YtneogampbohfnaaDoorZipLZP
import Derived.Test.YtneogampbohfnaaDoorZP7
import Derived.Test.YtneogampbohfnaaDoorZipJ
import Derived.Test.YtneogampbohfnaaDoorBits
namespace Go.Proofs.YtneogampbohfnaaDoor.ZP
set_option linter.unusedVariables false
set_option linter.unusedSimpArgs false
open Go.RowKit Go.Proofs.YtneogampbohfnaaDoorW.PrintWords Go.Proofs.YtneogampbohfnaaDoorW.PrintLast Go.Proofs.YtneogampbohfnaaDoorW.PrintMore
open Go.Proofs.YtneogampbohfnaaDoor.ZB (S39 z39 k39 rd_T39 lowL lowB lowL_length w64)
/-- A number's bytes, from the highest one on. -/
theorem bt_low (X n i : Nat) (hi : i < n) : bt (strOfNums (lowL (X : Int) n)) (i : Int) = lowB (X : Int) i := by
  have hl := lowL_length (X : Int) n
  have e : (lowL (X : Int) n)[i]? = some (lowB (X : Int) i) := by
    unfold lowL
    rw [List.getElem?_map, List.getElem?_range hi]; rfl
  have hz : (strOfNums (lowL (X : Int) n)).size = n := by rw [strOfNums_size, hl]
  have h2 : (strOfNums (lowL (X : Int) n)).data.toList[i]? = some (UInt8.ofNat (lowB (X : Int) i).toNat) := by
    rw [strOfNums_data, List.getElem?_map, e]; rfl
  have h4 : 0 ≤ lowB (X : Int) i ∧ lowB (X : Int) i < 256 := by unfold lowB; omega
  unfold bt
  rw [dif_pos (by rw [Int.toNat_natCast, hz]; exact hi)]
  have h3 : (strOfNums (lowL (X : Int) n))[(i : Int).toNat]'(by rw [Int.toNat_natCast, hz]; exact hi) = UInt8.ofNat (lowB (X : Int) i).toNat := by
    have hz2 : (strOfNums (lowL (X : Int) n)).data.toList.length = n := hz
    rw [List.getElem?_eq_getElem (by omega)] at h2
    injection h2
  rw [h3, UInt8.toNat_ofNat_of_lt' (show (lowB (X : Int) i).toNat < UInt8.size by show (lowB (X : Int) i).toNat < 256; omega)]
  omega
theorem or_comm (a b : Int) : Go.bits .or .i64 a b = Go.bits .or .i64 b a := by
  show IntKind.i64.wrap ((BitVec.ofInt 64 a ||| BitVec.ofInt 64 b).toNat : Nat) = IntKind.i64.wrap ((BitVec.ofInt 64 b ||| BitVec.ofInt 64 a).toNat : Nat)
  rw [BitVec.or_comm]
theorem number_l0 (X n : Nat) (hn : n ≤ 4) (hX : X < 4294967296) : ∀ (i : Nat), i ≤ n → ∀ K, i + 1 ≤ K → portageref10_Number.l0 K (strOfNums (lowL (X : Int) n)) ((X / 2 ^ (8 * i) : Nat) : Int) ((i : Int) - 1) = some (X : Int)
  | 0, _, K, hK => by
    obtain ⟨q, rfl⟩ : ∃ q, K = q + 1 := ⟨K - 1, by omega⟩
    rw [portageref10_Number.l0, if_neg (by omega), Nat.mul_zero, Nat.pow_zero, Nat.div_one]
  | i + 1, hi, K, hK => by
    obtain ⟨q, rfl⟩ : ∃ q, K = q + 1 := ⟨K - 1, by omega⟩
    have hz : (strOfNums (lowL (X : Int) n)).size = n := by rw [strOfNums_size, lowL_length]
    have ih := number_l0 X n hn hX i (by omega) q (by omega)
    have hp0 : 0 < 2 ^ (8 * i) := Nat.pow_pos (by decide)
    have e : X / 2 ^ (8 * (i + 1)) = X / 2 ^ (8 * i) / 256 := by
      rw [show 8 * (i + 1) = 8 * i + 8 from by omega, Nat.pow_add, ← Nat.div_div_eq_div_mul]
    have hle : X / 2 ^ (8 * i) ≤ X := Nat.div_le_self _ _
    have hb := bt_low X n i (by omega)
    rw [ZipW.lowB_at X i (by omega)] at hb
    rw [e]
    generalize X / 2 ^ (8 * i) = Y at hle hb ih ⊢
    have ho := Bits.or_add (Y % 256) (Y / 256) 8 (by omega) (by omega)
    have hs : Y % 256 + Y / 256 * 2 ^ 8 = Y := by omega
    rw [hs] at ho
    have hq : (((i + 1 : Nat) : Int) - 1) = (i : Int) := by omega
    have hw : wrap64 (((Y / 256 : Nat) : Int) * 256) = ((Y / 256 * 2 ^ 8 : Nat) : Int) := by rw [w64 (by omega) (by omega)]; omega
    rw [portageref10_Number.l0, hq, if_pos (by omega), if_pos (by omega), if_pos (by omega), hb, hw, w64 (n := ((Y % 256 : Nat) : Int)) (by omega) (by omega), or_comm, ho, w64 (by omega) (by omega)]
    exact ih
theorem number_k (X n : Nat) (hn : n ≤ 4) (hX : X < 2 ^ (8 * n)) {k : Nat} (hk : 10 ≤ k) : portageref10_Number.f k (strOfNums (lowL (X : Int) n)) = some (X : Int) := by
  have h32 : X < 4294967296 := by
    have : 2 ^ (8 * n) ≤ 2 ^ 32 := Nat.pow_le_pow_right (by decide) (by omega)
    exact Nat.lt_of_lt_of_le hX this
  have := number_l0 X n hn h32 n (Nat.le_refl _) k (by omega)
  rw [Nat.div_eq_of_lt hX] at this
  unfold portageref10_Number.f
  rw [strOfNums_size, lowL_length, w64 (by omega) (by omega)]
  exact this
theorem ext_mid (A B C : ByteArray) : (A ++ (B ++ C)).extract A.size (A.size + B.size) = B := by
  apply Go.WideShapes.bytes_inj
  have ea : A.data.toList.length = A.size := by rw [Array.length_toList]; rfl
  have eb : B.data.toList.length = B.size := by rw [Array.length_toList]; rfl
  rw [ByteArray.data_extract, Array.toList_extract, List.extract_eq_take_drop, ByteArray.data_append, ByteArray.data_append, Array.toList_append, Array.toList_append, List.drop_left' ea, List.take_left' (by rw [eb]; omega)]
/-- A piece of a text, where it stands. -/
theorem ext_at {s A B C : ByteArray} (h : s = A ++ (B ++ C)) {i j : Nat} (hi : i = A.size) (hj : j = A.size + B.size) : s.extract i j = B := by
  rw [h, hi, hj]; exact ext_mid A B C
theorem low_sz (x : Int) (n : Nat) : (strOfNums (lowL x n)).size = n := by rw [strOfNums_size, lowL_length]
theorem nums_cons (n : Nat) (y : Int) (ys : List Int) : ZipW.numsB n (y :: ys) = strOfNums (lowL y n) ++ ZipW.numsB n ys := by
  unfold ZipW.numsB
  rw [ZipW.numsL_cons, Go.Proofs.YtneogampbohfnaaDoor.ZB.strs_append]
theorem nums_nil (n : Nat) : ZipW.numsB n [] = (⟨#[]⟩ : ByteArray) := rfl
/-- An entry's part behind. -/
def partB (x : S39) (at_ : Nat) : ByteArray := ⟨#[80, 75, 1, 2]⟩ ++ ZipW.numsB 2 [20] ++ ZipW.commonB x ++ ZipW.numsB 2 [0, 0, 0] ++ ZipW.numsB 4 [0, (at_ : Int)] ++ ZipW.namesB x
theorem behind_next (l : List S39) (i : Nat) : ZipW.behindTo l (i + 1) = ZipW.behindTo l i ++ partB (rd_T39 l (i : Int)) (ZipW.frontTo l i).size := by
  rw [ZipW.behindTo, partB]
  simp only [ZipW.app_assoc]
theorem behind_more (l : List S39) (i : Nat) : ∀ d, ∃ r, ZipW.behindTo l (i + d) = ZipW.behindTo l i ++ r
  | 0 => ⟨⟨#[]⟩, (ZipW.app_nil _).symm⟩
  | d + 1 => by
    obtain ⟨r, h⟩ := behind_more l i d
    exact ⟨r ++ partB (rd_T39 l ((i + d : Nat) : Int)) (ZipW.frontTo l (i + d)).size, by rw [show i + (d + 1) = (i + d) + 1 from rfl, behind_next, h, ZipW.app_assoc]⟩
/-- The end of an archive. -/
def lastB (l : List S39) : ByteArray := ⟨#[80, 75, 5, 6]⟩ ++ (ZipW.numsB 2 [0, 0, (l.length : Int), (l.length : Int)] ++ (ZipW.numsB 4 [((ZipW.behindTo l l.length).size : Int), ((ZipW.frontTo l l.length).size : Int)] ++ ZipW.numsB 2 [0]))
theorem zip_three (l : List S39) : ZipW.zipL l = ZipW.frontTo l l.length ++ (ZipW.behindTo l l.length ++ lastB l) := by
  rw [ZipW.zipL_parts]; rfl
theorem last_size (l : List S39) : (lastB l).size = 22 := by
  unfold lastB
  have e4 : (⟨#[80, 75, 5, 6]⟩ : ByteArray).size = 4 := rfl
  simp only [ByteArray.size_append, ZipW.numsB_size, e4, List.length_cons, List.length_nil]
theorem front_cut (l : List S39) (i : Nat) (hi : i < l.length) : ∃ r, ZipW.zipL l = ZipW.frontTo l i ++ (ZipW.partF (rd_T39 l (i : Int)) ++ r) := by
  obtain ⟨r, h⟩ := ZipW.zipL_cut l (i + 1) hi
  exact ⟨r, by rw [h, ZipW.front_next, ZipW.app_assoc]⟩
theorem behind_cut (l : List S39) (i : Nat) (hi : i < l.length) : ∃ r, ZipW.zipL l = (ZipW.frontTo l l.length ++ ZipW.behindTo l i) ++ (partB (rd_T39 l (i : Int)) (ZipW.frontTo l i).size ++ r) := by
  obtain ⟨r, h⟩ := behind_more l (i + 1) (l.length - (i + 1))
  rw [show i + 1 + (l.length - (i + 1)) = l.length from by omega, behind_next] at h
  exact ⟨r ++ lastB l, by rw [zip_three, h]; simp only [ZipW.app_assoc]⟩
theorem partF_size (x : S39) (h : (ZipW.headB x).size = 26) : (ZipW.partF x).size = 30 + x.f0.size + 26 + x.f6.size := by
  have e4 : (⟨#[80, 75, 3, 4]⟩ : ByteArray).size = 4 := rfl
  unfold ZipW.partF ZipW.namesB
  simp only [ByteArray.size_append, ZipW.commonB_size, h, e4]
  omega
theorem partB_size (x : S39) (a : Nat) (h : (ZipW.headB x).size = 26) : (partB x a).size = 46 + x.f0.size + 26 := by
  have e4 : (⟨#[80, 75, 1, 2]⟩ : ByteArray).size = 4 := rfl
  unfold partB ZipW.namesB
  simp only [ByteArray.size_append, ZipW.commonB_size, ZipW.numsB_size, h, e4, List.length_cons, List.length_nil]
  omega
end Go.Proofs.YtneogampbohfnaaDoor.ZP
