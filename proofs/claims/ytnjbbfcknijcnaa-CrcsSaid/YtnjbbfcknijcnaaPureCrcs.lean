/- The law Crcs over the printed functions: the program's sums are the document's, for every text and every number; no conditions. -/
import Derived.Test.YtnjbbfcknijcnaaCrcL
namespace Go.Proofs.Ytnjbbfcknijcnaa.Pure
open Go.RowKit Go.Proofs.Ytnjbbfcknijcnaa.A Go.Proofs.YtnjbbfcknijcnaaW.PrintWords Go.Proofs.YtnjbbfcknijcnaaW.PrintLast
open Go.Proofs.Ytnjbbfcknijcnaa
theorem compl_int (c : Nat) (hc : c < 4294967296) : wrap64 (Go.bits .xor .u32 4294967295 (c : Int)) = ((CrcM.compl c : Nat) : Int) := by
  have h : Go.bits .xor .u32 4294967295 (c : Int) = ((CrcM.compl c : Nat) : Int) := u32_xor_nat CrcM.M c (by unfold CrcM.M; omega) hc
  have hl := CrcM.compl_lt hc
  rw [h]
  unfold wrap64
  omega
/-- A number modulo 2^32, as the document's 'Join' takes it. -/
theorem mod32 (a : Int) : ∃ m : Nat, m < 4294967296 ∧ a % 4294967296 = (m : Int) ∧ IntKind.u64.wrap a % 4294967296 = (m : Int) := by
  refine ⟨(a % 4294967296).toNat, by omega, by omega, ?_⟩
  rw [IntKind.wrap_u64]
  omega
theorem Crcs : portagelaw2_Crcs.Pure := by
  intro s a hs ha
  obtain ⟨m, hm, e1, e2⟩ := mod32 a
  refine ⟨10 * s.size + 100, ?_⟩
  unfold portagelaw2_Crcs.f
  rw [Of_k s (by omega) (by omega)]
  simp only [Option.bind_some]
  have hM : CrcM.compl 0 = 4294967295 := by decide
  have h1 : portageref1_Crc.f (10 * s.size + 100) s = some ((joinN 0 s : Nat) : Int) := by
    unfold portageref1_Crc.f
    rw [show (4294967295 : Int) = ((4294967295 : Nat) : Int) from rfl, Turn_k 4294967295 s (by omega) (by omega) (by omega)]
    simp only [Option.bind_some]
    rw [show ((4294967295 : Nat) : Int) = (4294967295 : Int) from rfl, compl_int _ (CrcM.fold_lt _ (by omega)), ← hM]
    rfl
  have h2 : portageref1_Join.f (10 * s.size + 100) a s = some ((joinN m s : Nat) : Int) := by
    unfold portageref1_Join.f
    rw [e2, show Go.bits .xor .u32 4294967295 (m : Int) = ((CrcM.compl m : Nat) : Int) from u32_xor_nat CrcM.M m (by unfold CrcM.M; omega) hm, Turn_k _ s (CrcM.compl_lt hm) (by omega) (by omega)]
    simp only [Option.bind_some]
    rw [compl_int _ (CrcM.fold_lt _ (CrcM.compl_lt hm))]
    rfl
  rw [h1]
  simp only [Option.bind_some, if_true]
  rw [Join_k a m s hm e1 (by omega) (by omega), h2]
  simp only [Option.bind_some, if_true]
  rw [awake_true (by omega)]
  rfl
end Go.Proofs.Ytnjbbfcknijcnaa.Pure
