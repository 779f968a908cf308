/- The law CrcTable over the printed functions: sums by hand, at each of seven texts; no conditions. -/
import Derived.Test.YtnjbbfcknijcnaaCrcL
import Derived.Test.YtnjbbfcknijcnaaA4
namespace Go.Proofs.Ytnjbbfcknijcnaa.Pure
open Go.RowKit Go.Proofs.Ytnjbbfcknijcnaa.A Go.Proofs.YtnjbbfcknijcnaaW.PrintWords Go.Proofs.YtnjbbfcknijcnaaW.PrintLast
open Go.Proofs.Ytnjbbfcknijcnaa
theorem pick_le (x : Int) (m : Nat) (hm : 0 < m) (hm2 : m < 4294967296) : 0 ≤ wrap64 (Int.tmod (IntKind.u64.wrap x) (m : Int)) ∧ wrap64 (Int.tmod (IntKind.u64.wrap x) (m : Int)) < (m : Int) := by
  have h0 : 0 ≤ IntKind.u64.wrap x := by rw [IntKind.wrap_u64]; omega
  rw [Int.tmod_eq_emod_of_nonneg h0]
  have h1 := Int.emod_nonneg (IntKind.u64.wrap x) (show (m : Int) ≠ 0 by omega)
  have h2 := Int.emod_lt_of_pos (IntKind.u64.wrap x) (show (0 : Int) < (m : Int) by omega)
  unfold wrap64
  omega
theorem CrcTable : portagelaw2_CrcTable.Pure := by
  intro x hx
  refine ⟨1000, ?_⟩
  unfold portagelaw2_CrcTable.f portagelaw0_Num.f
  rw [awake_true (by omega)]
  simp only [Option.bind_some, if_true]
  obtain ⟨h0, h1⟩ := pick_le x 7 (by omega) (by omega)
  generalize wrap64 (Int.tmod (IntKind.u64.wrap x) ((7 : Nat) : Int)) = i at h0 h1
  rw [if_pos h0, if_pos (by simpa using h1)]
  have hsz : ∀ s ∈ [(⟨#[]⟩ : ByteArray), (⟨#[97]⟩ : ByteArray), (⟨#[97, 98, 99]⟩ : ByteArray), (⟨#[49, 50, 51, 52, 53, 54, 55, 56, 57]⟩ : ByteArray), (⟨#[0]⟩ : ByteArray), (⟨#[0, 0, 0, 0]⟩ : ByteArray), (⟨#[255, 255, 255, 255]⟩ : ByteArray)], s.size ≤ 9 := by decide
  have hlen : i < (([0, 3904355907, 891568578, 3421780262, 3523407757, 558161692, 4294967295] : List Int).length : Int) := h1
  obtain ⟨j, rfl⟩ : ∃ j : Nat, i = (j : Int) := ⟨i.toNat, by omega⟩
  have hj : j < 7 := by omega
  clear h0 h1 hsz hx
  match j, hj with
  | 0, _ => rw [Of_k _ (by decide) (by decide)]; simp only [Option.bind_some]; rw [if_pos hlen]; exact congrArg some (by decide +kernel)
  | 1, _ => rw [Of_k _ (by decide) (by decide)]; simp only [Option.bind_some]; rw [if_pos hlen]; exact congrArg some (by decide +kernel)
  | 2, _ => rw [Of_k _ (by decide) (by decide)]; simp only [Option.bind_some]; rw [if_pos hlen]; exact congrArg some (by decide +kernel)
  | 3, _ => rw [Of_k _ (by decide) (by decide)]; simp only [Option.bind_some]; rw [if_pos hlen]; exact congrArg some (by decide +kernel)
  | 4, _ => rw [Of_k _ (by decide) (by decide)]; simp only [Option.bind_some]; rw [if_pos hlen]; exact congrArg some (by decide +kernel)
  | 5, _ => rw [Of_k _ (by decide) (by decide)]; simp only [Option.bind_some]; rw [if_pos hlen]; exact congrArg some (by decide +kernel)
  | 6, _ => rw [Of_k _ (by decide) (by decide)]; simp only [Option.bind_some]; rw [if_pos hlen]; exact congrArg some (by decide +kernel)
end Go.Proofs.Ytnjbbfcknijcnaa.Pure
