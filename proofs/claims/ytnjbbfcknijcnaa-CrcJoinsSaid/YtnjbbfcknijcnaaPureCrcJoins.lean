/- The law CrcJoins over the printed functions: a sum goes on part by part; no conditions. -/
import Derived.Test.YtnjbbfcknijcnaaCrcL
import Derived.Test.YtnjbbfcknijcnaaA4
namespace Go.Proofs.Ytnjbbfcknijcnaa.Pure
open Go.RowKit Go.Proofs.Ytnjbbfcknijcnaa.A Go.Proofs.YtnjbbfcknijcnaaW.PrintWords Go.Proofs.YtnjbbfcknijcnaaW.PrintLast
open Go.Proofs.Ytnjbbfcknijcnaa
theorem joinN_append (a : Nat) (s t : ByteArray) : joinN a (s ++ t) = joinN (joinN a s) t := by
  unfold joinN
  rw [CrcM.compl_compl, ← CrcM.fold_append]
  congr 2
theorem joinN_nil (a : Nat) : joinN a (⟨#[]⟩ : ByteArray) = a := CrcM.compl_compl a
theorem CrcJoins : portagelaw2_CrcJoins.Pure := by
  intro a b c x ha hb hc hx
  obtain ⟨m, hm, e1⟩ : ∃ m : Nat, m < 4294967296 ∧ IntKind.u64.wrap x % 4294967296 = (m : Int) := ⟨(IntKind.u64.wrap x % 4294967296).toNat, by omega, by omega⟩
  have e2 : x % 4294967296 = (m : Int) := by
    rw [IntKind.wrap_u64] at e1
    omega
  refine ⟨10 * (a.size + b.size + c.size) + 1000, ?_⟩
  have hab : (a ++ b).size = a.size + b.size := by simp
  have hbc : (b ++ c).size = b.size + c.size := by simp
  have habc : ((a ++ b) ++ c).size = a.size + b.size + c.size := by simp
  have l0 := joinN_lt 0 a (by omega)
  have l1 := joinN_lt _ b l0
  have l2 := joinN_lt 0 (a ++ b) (by omega)
  have hm' : (m : Int) % 4294967296 = (m : Int) := by omega
  unfold portagelaw2_CrcJoins.f portagelaw0_Num.f
  rw [awake_true (by omega)]
  simp only [Option.bind_some, if_true]
  rw [Of_k a (by omega) (by omega)]
  simp only [Option.bind_some]
  rw [Join_k _ _ b l0 (by omega) (by omega) (by omega)]
  simp only [Option.bind_some]
  rw [Join_k _ _ c l1 (by omega) (by omega) (by omega)]
  simp only [Option.bind_some]
  rw [if_pos (by omega), Join_k _ _ (b ++ c) l0 (by omega) (by omega) (by omega)]
  simp only [Option.bind_some]
  rw [if_pos (by omega), Of_k (a ++ b) (by omega) (by omega)]
  simp only [Option.bind_some]
  rw [Join_k _ _ c l2 (by omega) (by omega) (by omega)]
  simp only [Option.bind_some]
  rw [if_pos (by rw [joinN_append (joinN 0 a) b c]), if_pos (by rw [joinN_append (joinN 0 a) b c, joinN_append 0 a b]), if_pos (by omega), Of_k _ (by omega) (by omega)]
  simp only [Option.bind_some]
  rw [if_pos (by rw [← joinN_append]), e1, Join_k _ m _ hm hm' (show (⟨#[]⟩ : ByteArray).size ≤ _ from by decide) (show 10 * 0 + 1 ≤ _ from by omega)]
  simp only [Option.bind_some]
  rw [joinN_nil, if_pos rfl, Join_k x m a hm e2 (by omega) (by omega), Join_k _ m a hm hm' (by omega) (by omega)]
  simp
end Go.Proofs.Ytnjbbfcknijcnaa.Pure
