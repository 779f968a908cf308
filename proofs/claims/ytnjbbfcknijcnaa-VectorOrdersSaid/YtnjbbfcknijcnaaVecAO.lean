/- 'awake' and 'four' of chapter 11's statements over plain lists; no program in sight. -/
import Derived.Test.YtnjbbfcknijcnaaVecLO
import Derived.Test.YtnjbbfcknijcnaaO4
import Derived.Test.YtnjbbfcknijcnaaO5
import Derived.Test.YtnjbbfcknijcnaaBits
namespace Go.Proofs.Ytnjbbfcknijcnaa.O
set_option linter.unusedVariables false
set_option linter.unusedSimpArgs false
open Go.RowKit Go.Proofs.YtnjbbfcknijcnaaW.PrintWords Go.Proofs.YtnjbbfcknijcnaaW.PrintLast Go.Proofs.YtnjbbfcknijcnaaW.PrintMore
theorem num_k (n : Int) : portagelaw0_Num.f n = some n := rfl
theorem awake_true {k : Nat} (hk : 20 ≤ k) : portagelaw11_awake.f k = some true := at_rounds (g := fun k => portagelaw11_awake.f k) portagelaw11_awake.mono hk (by decide +kernel)
/-- Four counts, each modulo 65536, for any list. -/
def cnt (l : List Int) (i : Nat) : Int := if i < l.length then rd l (i : Int) % 65536 else 0
theorem cnt_le (l : List Int) (i : Nat) : 0 ≤ cnt l i ∧ cnt l i ≤ 65535 := by unfold cnt; split <;> omega
def fours (l : List Int) : List Int := [cnt l 0, cnt l 1, cnt l 2, cnt l 3]
theorem four_l0 (l : List Int) : ∀ (d i : Nat) (p : List Int), i + d = 4 → p.length = i → ∀ k, portagelaw11_four.l0 (k + d + 1) l (p ++ List.replicate d 0) (i : Int) = some (p ++ ((List.range' i d).map (cnt l)))
  | 0, i, p, hi, hp, k => by
    simp only [portagelaw11_four.l0]
    rw [if_neg (by omega)]
    simp
  | d + 1, i, p, hi, hp, k => by
    have ih := four_l0 l d (i + 1) (p ++ [rd l (i : Int) % 65536]) (by omega) (by simp [hp]) k
    rw [show k + (d + 1) + 1 = (k + d + 1) + 1 from by omega]
    generalize k + d + 1 = K at ih ⊢
    simp only [portagelaw11_four.l0]
    rw [if_pos (by omega)]
    by_cases h : i < l.length
    · have hs : (p ++ List.replicate (d + 1) 0).set (i : Int).toNat (rd l (i : Int) % 65536) = (p ++ [rd l (i : Int) % 65536]) ++ List.replicate d 0 := by
        simp [← hp, List.replicate_succ]
      rw [if_pos (by omega), if_pos (by omega), if_pos (by simp only [List.length_append, List.length_replicate]; omega), Bits.and_16, hs, show wrap64 ((i : Int) + 1) = ((i + 1 : Nat) : Int) from by unfold wrap64; omega, ih]
      simp [List.range'_succ, cnt, h]
    · rw [if_neg (by omega)]
      have hz : ∀ (n j : Nat), l.length ≤ j → (List.range' j n).map (cnt l) = List.replicate n 0 := by
        intro n
        induction n with
        | zero => intro j _; rfl
        | succ n ihn =>
          intro j hj
          rw [List.range'_succ, List.map_cons, ihn (j + 1) (by omega), List.replicate_succ]
          simp [cnt, show ¬ j < l.length by omega]
      rw [hz _ _ (by omega)]
theorem four_k (l : List Int) {k : Nat} (hk : 6 ≤ k) : portagelaw11_four.f k l = some (fours l) := by
  unfold portagelaw11_four.f
  rw [if_pos (by omega)]
  obtain ⟨m, rfl⟩ : ∃ m, k = m + 4 + 1 := ⟨k - 5, by omega⟩
  exact four_l0 l 4 0 [] rfl rfl m
theorem fours_ok (l : List Int) : vok (fours l) = true := by
  have h0 := cnt_le l 0
  have h1 := cnt_le l 1
  have h2 := cnt_le l 2
  have h3 := cnt_le l 3
  exact vok_four (by omega) (by omega) (by omega) (by omega)
end Go.Proofs.Ytnjbbfcknijcnaa.O
