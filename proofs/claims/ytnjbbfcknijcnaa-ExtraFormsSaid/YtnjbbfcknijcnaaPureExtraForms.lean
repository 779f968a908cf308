import Derived.Test.YtnjbbfcknijcnaaExtraLF
import Derived.Test.YtnjbbfcknijcnaaF6
import Derived.Test.YtnjbbfcknijcnaaF7
import Derived.Test.YtnjbbfcknijcnaaBits
namespace Go.Proofs.Ytnjbbfcknijcnaa.Pure
set_option linter.unusedVariables false
set_option linter.unusedSimpArgs false
open Go.RowKit Go.Proofs.Ytnjbbfcknijcnaa.F Go.Proofs.YtnjbbfcknijcnaaW.PrintWords Go.Proofs.YtnjbbfcknijcnaaW.PrintLast Go.Proofs.YtnjbbfcknijcnaaW.PrintMore
namespace XF
theorem awake_true {k : Nat} (hk : 150 ≤ k) : portagelaw12_awake.f k = some true := at_rounds (g := fun k => portagelaw12_awake.f k) portagelaw12_awake.mono hk (by decide +kernel)
theorem num1 (n : Int) : portagelaw0_Num.f n = some n := rfl
theorem u64_tmod (x : Int) (m : Nat) (hm : 0 < m) : ∃ i : Nat, i < m ∧ Int.tmod (IntKind.u64.wrap x) (m : Int) = (i : Int) := by
  have h0 : 0 ≤ IntKind.u64.wrap x := by rw [IntKind.wrap_u64]; omega
  rw [Int.tmod_eq_emod_of_nonneg h0]
  have h1 := Int.emod_nonneg (IntKind.u64.wrap x) (show (m : Int) ≠ 0 by omega)
  have h2 := Int.emod_lt_of_pos (IntKind.u64.wrap x) (show (0 : Int) < (m : Int) by omega)
  exact ⟨((IntKind.u64.wrap x) % (m : Int)).toNat, by omega, by omega⟩
def SS : ByteArray := strOfNums (putL [1, 2, 3, 4] 5 3 false)
theorem SS_size : SS.size = 26 := by decide +kernel
def texts : List ByteArray := [(⟨#[]⟩ : ByteArray), SS.extract 0 25, SS ++ (⟨#[0]⟩ : ByteArray), (⟨#[112, 112]⟩ : ByteArray) ++ (SS.extract 2 SS.size), (⟨#[112, 80, 23]⟩ : ByteArray) ++ (SS.extract 3 SS.size), (SS.extract 0 24) ++ (⟨#[4, 0]⟩ : ByteArray), (SS.extract 0 25) ++ (⟨#[2]⟩ : ByteArray), ((SS.extract 0 20) ++ (⟨#[0, 0, 0, 0]⟩ : ByteArray)) ++ (SS.extract 24 SS.size), ((SS.extract 0 7) ++ (⟨#[1]⟩ : ByteArray)) ++ (SS.extract 8 SS.size)]
def bad : ByteArray × Bool × List Int × Int × Int × Int × ByteArray × Int × Int × Int := (⟨#[]⟩, false, [], 0, 0, 0, ⟨#[]⟩, 0, 0, 1200)
theorem get_bad0 : ∀ i : Nat, i < 9 → extra_Get.f 150 (rdOf ByteArray.empty texts (i : Int)) = some bad
  | 0, _ => by kernel_rfl
  | 1, _ => by kernel_rfl
  | 2, _ => by kernel_rfl
  | 3, _ => by kernel_rfl
  | 4, _ => by kernel_rfl
  | 5, _ => by kernel_rfl
  | 6, _ => by kernel_rfl
  | 7, _ => by kernel_rfl
  | 8, _ => by kernel_rfl
  | n + 9, h => absurd h (by omega)
theorem get_bad {K : Nat} (hK : 150 ≤ K) (i : Nat) (hi : i < 9) : extra_Get.f K (rdOf ByteArray.empty texts (i : Int)) = some bad :=
  at_rounds (g := fun k => extra_Get.f k (rdOf ByteArray.empty texts (i : Int))) (fun k => extra_Get.mono _ k) hK (get_bad0 i hi)
theorem same_bad {K : Nat} (hK : 150 ≤ K) : portagelaw0_SameEntry.f K ⟨#[]⟩ false [] 0 0 0 ⟨#[]⟩ 0 0 ⟨#[]⟩ false [] 0 0 0 ⟨#[]⟩ 0 0 = some true :=
  at_rounds (g := fun k => portagelaw0_SameEntry.f k ⟨#[]⟩ false [] 0 0 0 ⟨#[]⟩ 0 0 ⟨#[]⟩ false [] 0 0 0 ⟨#[]⟩ 0 0) (fun k => portagelaw0_SameEntry.mono _ _ _ _ _ _ _ _ _ _ _ _ _ _ _ _ _ _ k) hK (by decide +kernel)
theorem put_bad (a : ByteArray) (b : Bool) (v : List Int) (s n m : Int) (p : ByteArray) (z c : Int) (h : mayE v s n = false) {K : Nat} (hK : 40 ≤ K) : extra_Put.f K a b v s n m p z c = some (⟨#[]⟩, 1200) := by
  rw [put_k _ _ _ _ _ _ _ _ _ hK, if_neg (by rw [h]; decide)]
theorem j1_ok (x0 : Int) (a : ByteArray) (b : Bool) (v : List Int) (s n m : Int) (p : ByteArray) (z c : Int) (h : mayE v s n = false) {K : Nat} (hK : 200 ≤ K) : portagelaw12_ExtraForms.j1 (K + 1) x0 SS a b v s n m p z c = some true := by
  obtain ⟨i, hi, e⟩ := u64_tmod x0 9 (by decide)
  replace e : Int.tmod (IntKind.u64.wrap x0) 9 = (i : Int) := e
  have ei : wrap64 (i : Int) = (i : Int) := w64 (by omega) (by omega)
  have e0 : (⟨#[]⟩ : ByteArray).toList = ([] : List UInt8) := by rw [ByteArray.toList_eq]
  have hz : (SS.size : Int) = 26 := by rw [SS_size]; rfl
  have hl : (texts.length : Int) = 9 := by decide
  rw [portagelaw12_ExtraForms.j1, put_bad _ _ _ _ _ _ _ _ _ h (by omega), Option.bind_some, e, ei, if_pos (by decide), if_pos (by omega), if_pos (by rw [SS_size]; decide), if_pos (by omega), if_pos (by decide +kernel), if_pos (by omega), if_pos (by decide +kernel), if_pos (by decide), if_pos (by omega), if_pos (by decide +kernel), if_pos (by decide +kernel), if_pos (by decide), if_pos (by omega), if_pos (by decide +kernel), if_pos (by decide +kernel), if_pos (by decide), if_pos (by omega), if_pos (by decide +kernel), if_pos (by omega), if_pos (by decide +kernel)]
  show (if 0 ≤ (i : Int) then (if (i : Int) < (texts.length : Int) then _ else none) else none) = _
  rw [if_pos (by omega), if_pos (by omega)]
  show (extra_Get.f K (rdOf ByteArray.empty texts (i : Int))).bind _ = _
  rw [get_bad (by omega) i hi, Option.bind_some]
  unfold bad
  dsimp only
  rw [if_pos e0, num1, Option.bind_some, if_pos rfl, same_bad (by omega), Option.bind_some, if_pos rfl]
  rfl
theorem copy1 (a : ByteArray) (b : Bool) (s n m : Int) (p : ByteArray) (z c : Int) : portagelaw0_CopyEntry.f a b [1, 2, 3, 4] s n m p z c = some (a, b, [1, 2, 3, 4], s, n, m, p, z, c) := by
  unfold portagelaw0_CopyEntry.f
  rw [Option.bind_some, if_pos (by decide)]
  rfl
end XF
open XF in
theorem ExtraForms : portagelaw12_ExtraForms.Pure := by
  intro x0 x1 _ _
  refine ⟨300, ?_⟩
  obtain ⟨d, hd, d1, d2⟩ : ∃ d : Int, wrap64 (1 + Go.bits .and .i64 x1 1023) = d ∧ 1 ≤ d ∧ d ≤ 1024 := ⟨1 + x1 % 1024, by rw [Bits.and_10, w64 (by omega) (by omega)], by omega, by omega⟩
  have hm : mayE [1, 2, 3, 4] 5 3 = true := by decide
  have hz : ((SS.size : Int) != 26) = false := by rw [SS_size]; decide
  unfold portagelaw12_ExtraForms.f
  rw [awake_true (by decide), Option.bind_some, if_pos rfl, Option.bind_some, put_k _ _ _ _ _ _ _ _ _ (by decide), Option.bind_some, if_pos hm, hd]
  dsimp only
  rw [num1, Option.bind_some, if_pos rfl]
  show portagelaw12_ExtraForms.j0 300 x0 d SS ((SS.size : Int) != 26) _ _ _ _ _ _ _ _ _ = _
  rw [hz, portagelaw12_ExtraForms.j0, if_neg (by decide), copy1, Option.bind_some]
  dsimp only
  split
  · rw [if_pos (by decide)]
    exact j1_ok x0 _ _ _ _ _ _ _ _ _ (by decide) (by decide)
  split
  · rw [if_pos (by decide)]
    refine j1_ok x0 _ _ _ _ _ _ _ _ _ ?_ (by decide)
    rw [w64 (by omega) (by omega)]
    unfold mayE vok okc
    have : decide (0 ≤ -d) = false := decide_eq_false (by omega)
    simp [this]
    omega
  split
  · rw [if_pos (by decide)]
    refine j1_ok x0 _ _ _ _ _ _ _ _ _ ?_ (by decide)
    rw [w64 (by omega) (by omega)]
    unfold mayE vok okc
    simp
    omega
  split
  · refine j1_ok x0 _ _ _ _ _ _ _ _ _ ?_ (by decide)
    rw [w64 (by omega) (by omega)]
    unfold mayE
    have : decide (1 ≤ 1 - d) = false := decide_eq_false (by omega)
    rw [this]; simp
  split
  · refine j1_ok x0 _ _ _ _ _ _ _ _ _ ?_ (by decide)
    rw [w64 (by omega) (by omega)]
    unfold mayE okc
    have : decide (1048576 + d ≤ 1048576) = false := decide_eq_false (by omega)
    rw [this]; simp
  split
  · refine j1_ok x0 _ _ _ _ _ _ _ _ _ ?_ (by decide)
    rw [w64 (by omega) (by omega)]
    unfold mayE nodeOk
    have : decide (0 ≤ -d) = false := decide_eq_false (by omega)
    rw [this]; simp
  · refine j1_ok x0 _ _ _ _ _ _ _ _ _ ?_ (by decide)
    rw [w64 (by omega) (by omega)]
    unfold mayE nodeOk
    have : decide (3 + d < 4) = false := decide_eq_false (by omega)
    rw [this]; simp
end Go.Proofs.Ytnjbbfcknijcnaa.Pure
