/- The printed loops of chapter 2's sums answer what the plain functions of CrcM do. -/
import Derived.Test.YtnjbbfcknijcnaaT1
import Derived.Test.YtnjbbfcknijcnaaCrcM
import Derived.Laws.BitsAllLaws
namespace Go.Proofs.Ytnjbbfcknijcnaa.T
set_option linter.unusedVariables false
set_option linter.unusedSimpArgs false
open Go.RowKit Go.Proofs.YtnjbbfcknijcnaaW.PrintWords Go.Proofs.YtnjbbfcknijcnaaW.PrintLast
open Go.Proofs.Ytnjbbfcknijcnaa
theorem step_int (c : Nat) (hc : c < 4294967296) : (if Go.bits .and .u32 (c : Int) 1 = 1 then Go.bits .xor .u32 ((c : Int) / 2) 3988292384 else (c : Int) / 2) = ((CrcM.step c : Nat) : Int) := by
  have h1 : Go.bits .and .u32 (c : Int) 1 = ((c % 2 : Nat) : Int) := by
    have := u32_and_nat c 1 hc (by omega)
    rw [Nat.and_one_is_mod] at this
    exact this
  have h2 : Go.bits .xor .u32 ((c : Int) / 2) 3988292384 = (((c / 2) ^^^ CrcM.P : Nat) : Int) := u32_xor_nat (c / 2) CrcM.P (by omega) (by unfold CrcM.P; omega)
  rw [h1, h2]
  unfold CrcM.step
  by_cases h : c % 2 = 1
  · rw [if_pos (by omega), if_pos h]
  · rw [if_neg (by omega), if_neg h]; rfl
theorem bt_nat (s : ByteArray) (i : Nat) (h : i < s.size) : bt s (i : Int) = ((s[i].toNat : Nat) : Int) := by
  unfold bt
  rw [dif_pos (by simpa using h)]
  simp
theorem w1 {i : Nat} {n : Nat} (h : i < n) (hn : n ≤ 4611686018427387904) : wrap64 ((i : Int) + 1) = ((i + 1 : Nat) : Int) := by unfold wrap64; omega
theorem xor_byte (c b : Nat) (hc : c < 4294967296) (hb : b < 256) : Go.bits .xor .u32 (c : Int) ((b : Int) % 4294967296) = ((c ^^^ b : Nat) : Int) := by
  rw [show ((b : Int) % 4294967296) = (b : Int) from by omega]
  exact u32_xor_nat c b hc (by omega)
/-- What stands at a place on. -/
def from_ (s : ByteArray) (i : Nat) : List UInt8 := s.data.toList.drop i
theorem from_cons (s : ByteArray) (i : Nat) (h : i < s.size) : from_ s i = s[i] :: from_ s (i + 1) := by
  unfold from_
  have h' : i < s.data.toList.length := by rw [Array.length_toList]; exact h
  rw [List.drop_eq_getElem_cons h']
  rfl
theorem from_end (s : ByteArray) : from_ s s.size = [] := by
  unfold from_
  rw [List.drop_eq_nil_iff, Array.length_toList]
  exact Nat.le_refl _

theorem join_l1 (s : ByteArray) (n i : Int) : ∀ (d j c : Nat), j + d = 8 → c < 4294967296 → ∀ k, crc_Join.l1 (k + d + 1) s (c : Int) n i (j : Int) = crc_Join.l0 k s ((CrcM.steps d c : Nat) : Int) n (wrap64 (i + 1))
  | 0, j, c, hj, hc, k => by
    simp only [crc_Join.l1]
    rw [if_neg (by omega)]
    rfl
  | d + 1, j, c, hj, hc, k => by
    have h := join_l1 s n i d (j + 1) (CrcM.step c) (by omega) (CrcM.step_lt hc) k
    rw [show k + (d + 1) + 1 = (k + d + 1) + 1 from by omega]
    simp only [crc_Join.l1]
    rw [if_pos (by omega), show wrap64 ((j : Int) + 1) = ((j + 1 : Nat) : Int) from by unfold wrap64; omega]
    have hs := step_int c hc
    by_cases hb : Go.bits .and .u32 (c : Int) 1 = 1
    · rw [if_pos hb] at hs ⊢
      rw [hs]
      exact h
    · rw [if_neg hb] at hs ⊢
      rw [hs]
      exact h
theorem join_l0 (s : ByteArray) (hn : s.size ≤ 4611686018427387904) (c i : Nat) (hi : i < s.size) (hc : c < 4294967296) (k : Nat) : crc_Join.l0 (k + 10) s (c : Int) (s.size : Int) (i : Int) = crc_Join.l0 k s ((CrcM.byte c (s[i].toNat) : Nat) : Int) (s.size : Int) ((i + 1 : Nat) : Int) := by
  simp only [crc_Join.l0]
  rw [if_pos (by omega), if_pos (by omega), if_pos (by omega), bt_nat s i hi, xor_byte c _ hc s[i].toNat_lt]
  have h := join_l1 s (s.size : Int) (i : Int) 8 0 (c ^^^ s[i].toNat) rfl (CrcM.xor_lt hc (by have := s[i].toNat_lt; omega)) k
  rw [w1 hi hn] at h
  exact h
theorem join_end (s : ByteArray) (hn : s.size ≤ 4611686018427387904) : ∀ (d i c : Nat), i + d = s.size → c < 4294967296 → ∀ k, crc_Join.l0 (k + 10 * d + 1) s (c : Int) (s.size : Int) (i : Int) = some ((CrcM.compl (CrcM.fold c (from_ s i)) : Nat) : Int)
  | 0, i, c, hi, hc, k => by
    have hi' : i = s.size := by omega
    subst hi'
    show crc_Join.l0 (k + 1) s (c : Int) (s.size : Int) (s.size : Int) = _
    simp only [crc_Join.l0]
    rw [if_neg (by omega), from_end]
    have h : Go.bits .xor .u32 4294967295 (c : Int) = ((CrcM.compl c : Nat) : Int) := u32_xor_nat CrcM.M c (by unfold CrcM.M; omega) hc
    have hl := CrcM.compl_lt hc
    rw [h, show wrap64 ((CrcM.compl c : Nat) : Int) = ((CrcM.compl c : Nat) : Int) from by unfold wrap64; omega]
    rfl
  | d + 1, i, c, hi, hc, k => by
    rw [show k + 10 * (d + 1) + 1 = (k + 10 * d + 1) + 10 from by omega, join_l0 s hn c i (by omega) hc, join_end s hn d (i + 1) _ (by omega) (CrcM.byte_lt hc s[i].toNat_lt) k, from_cons s i (by omega)]
    rfl
def joinN (a : Nat) (s : ByteArray) : Nat := CrcM.compl (CrcM.fold (CrcM.compl a) s.data.toList)
theorem joinN_lt (a : Nat) (s : ByteArray) (ha : a < 4294967296) : joinN a s < 4294967296 := CrcM.compl_lt (CrcM.fold_lt _ (CrcM.compl_lt ha))
/-- 'Join' of any number that is as a modulo 2^32. -/
theorem Join_f (x : Int) (a : Nat) (s : ByteArray) (ha : a < 4294967296) (hx : x % 4294967296 = (a : Int)) (hn : s.size ≤ 4611686018427387904) (k : Nat) : crc_Join.f (k + 10 * s.size + 1) x s = some ((joinN a s : Nat) : Int) := by
  unfold crc_Join.f
  rw [hx]
  have h : Go.bits .xor .u32 4294967295 (a : Int) = ((CrcM.compl a : Nat) : Int) := u32_xor_nat CrcM.M a (by unfold CrcM.M; omega) ha
  rw [h]
  exact join_end s hn s.size 0 _ (by omega) (CrcM.compl_lt ha) k
theorem Of_f (s : ByteArray) (hn : s.size ≤ 4611686018427387904) (k : Nat) : crc_Of.f (k + 10 * s.size + 1) s = some ((joinN 0 s : Nat) : Int) := by
  unfold crc_Of.f
  rw [Join_f 0 0 s (by omega) rfl hn k]
  rfl
theorem Join_k (x : Int) (a : Nat) (s : ByteArray) (ha : a < 4294967296) (hx : x % 4294967296 = (a : Int)) (hn : s.size ≤ 4611686018427387904) {k : Nat} (hk : 10 * s.size + 1 ≤ k) : crc_Join.f k x s = some ((joinN a s : Nat) : Int) := by
  obtain ⟨m, rfl⟩ : ∃ m, k = m + 10 * s.size + 1 := ⟨k - (10 * s.size + 1), by omega⟩
  exact Join_f x a s ha hx hn m
theorem Of_k (s : ByteArray) (hn : s.size ≤ 4611686018427387904) {k : Nat} (hk : 10 * s.size + 1 ≤ k) : crc_Of.f k s = some ((joinN 0 s : Nat) : Int) := by
  obtain ⟨m, rfl⟩ : ∃ m, k = m + 10 * s.size + 1 := ⟨k - (10 * s.size + 1), by omega⟩
  exact Of_f s hn m


theorem awake_true {k : Nat} (hk : 91 ≤ k) : portagelaw2_awake.f k = some true := by
  have h1 : joinN 0 (⟨#[49, 50, 51, 52, 53, 54, 55, 56, 57]⟩ : ByteArray) = 3421780262 := by decide +kernel
  have h2 : joinN 0 (⟨#[]⟩ : ByteArray) = 0 := by decide +kernel
  have h3 : joinN (joinN 0 (⟨#[49, 50, 51, 52, 53]⟩ : ByteArray)) (⟨#[54, 55, 56, 57]⟩ : ByteArray) = 3421780262 := by decide +kernel
  have hl := joinN_lt 0 (⟨#[49, 50, 51, 52, 53]⟩ : ByteArray) (by omega)
  have s1 : (⟨#[49, 50, 51, 52, 53, 54, 55, 56, 57]⟩ : ByteArray).size = 9 := rfl
  have s2 : (⟨#[]⟩ : ByteArray).size = 0 := rfl
  have s3 : (⟨#[49, 50, 51, 52, 53]⟩ : ByteArray).size = 5 := rfl
  have s4 : (⟨#[54, 55, 56, 57]⟩ : ByteArray).size = 4 := rfl
  unfold portagelaw2_awake.f portagelaw0_Num.f
  simp only [Option.bind_some, if_true]
  rw [Of_k _ (by omega) (by omega), Of_k _ (by omega) (by omega), Of_k _ (by omega) (by omega), h1, h2]
  simp only [Option.bind_some]
  rw [if_pos (by rfl), if_pos (by rfl), Join_k _ _ _ hl (by omega) (by omega) (by omega), h3]
  rfl
end Go.Proofs.Ytnjbbfcknijcnaa.T
