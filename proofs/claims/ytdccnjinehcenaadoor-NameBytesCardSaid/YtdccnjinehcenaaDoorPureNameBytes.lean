/- The plain law of portagelaw10.NameBytes: a name of one byte; bytes that may not be make none of any. -/
import Derived.Test.YtdccnjinehcenaaDoorNameLN
import Derived.Test.YtdccnjinehcenaaDoorNameAN
import Derived.Test.YtdccnjinehcenaaDoorN4
namespace Go.Proofs.YtdccnjinehcenaaDoor.Pure
set_option linter.unusedVariables false
set_option linter.unusedSimpArgs false
open Go.RowKit Go.Proofs.YtdccnjinehcenaaDoor.N Go.Proofs.YtdccnjinehcenaaDoorW.PrintWords Go.Proofs.YtdccnjinehcenaaDoorW.PrintLast Go.Proofs.YtdccnjinehcenaaDoorW.PrintMore
def gd (c : Int) : Bool := if c ≥ 97 then (if c ≤ 122 then true else (if c ≥ 48 then (if c ≤ 57 then true else (if c = 45 then true else c == 95)) else (if c = 45 then true else c == 95))) else (if c ≥ 48 then (if c ≤ 57 then true else (if c = 45 then true else c == 95)) else (if c = 45 then true else c == 95))
theorem gd_at : ∀ n : Fin 256, nm [UInt8.ofNat n.val] = gd (n.val : Int) ∧ (ofs.contains (UInt8.ofNat n.val) = (gd (n.val : Int) || ((n.val : Int) == 46))) ∧ (ofs.contains (UInt8.ofNat n.val) = true → nm [97, UInt8.ofNat n.val] = true ∧ nm [97, UInt8.ofNat n.val, 97] = true) := by decide +kernel
theorem f_eq (k : Nat) (a0 : Int) (a1 : ByteArray) : portagelaw10_NameBytes.f k a0 a1 = portagelaw10_NameBytes.j0 k a1 (a0 % 256) (gd (a0 % 256)) := by
  unfold portagelaw10_NameBytes.f
  rw [name_awake, Option.bind_some, if_pos rfl]
  unfold gd
  generalize a0 % 256 = c
  by_cases h1 : c ≥ 97
  · rw [if_pos h1, if_pos h1]
    by_cases h2 : c ≤ 122
    · rw [if_pos h2, if_pos h2]
    · rw [if_neg h2, if_neg h2]
      by_cases h3 : c ≥ 48
      · rw [if_pos h3, if_pos h3]
        by_cases h4 : c ≤ 57
        · rw [if_pos h4, if_pos h4]
        · rw [if_neg h4, if_neg h4]
          by_cases h5 : c = 45
          · rw [if_pos h5, if_pos h5]
          · rw [if_neg h5, if_neg h5]
      · rw [if_neg h3, if_neg h3]
        by_cases h5 : c = 45
        · rw [if_pos h5, if_pos h5]
        · rw [if_neg h5, if_neg h5]
  · rw [if_neg h1, if_neg h1]
    by_cases h3 : c ≥ 48
    · rw [if_pos h3, if_pos h3]
      by_cases h4 : c ≤ 57
      · rw [if_pos h4, if_pos h4]
      · rw [if_neg h4, if_neg h4]
        by_cases h5 : c = 45
        · rw [if_pos h5, if_pos h5]
        · rw [if_neg h5, if_neg h5]
    · rw [if_neg h3, if_neg h3]
      by_cases h5 : c = 45
      · rw [if_pos h5, if_pos h5]
      · rw [if_neg h5, if_neg h5]
theorem nm_bad {l : List UInt8} {b : UInt8} (hb : b ∈ l) (h : ofs.contains b = false) : nm l = false := by
  have : l.all (ofs.contains ·) = false := by
    rw [Bool.eq_false_iff]
    intro h2
    have := List.all_eq_true.mp h2 b hb
    rw [h] at this
    exact absurd this (by simp)
  unfold nm
  rw [this, Bool.false_and, Bool.and_false, Bool.and_false]
theorem app_list (a b : ByteArray) : (a ++ b).data.toList = a.data.toList ++ b.data.toList := by rw [ByteArray.data_append, Array.toList_append]
theorem NameBytes : portagelaw10_NameBytes.Pure := by
  intro a0 a1 hw hs
  refine ⟨5, ?_⟩
  rw [f_eq]
  obtain ⟨n, hn, he⟩ : ∃ n : Nat, n < 256 ∧ a0 % 256 = (n : Int) := ⟨(a0 % 256).toNat, by omega, by omega⟩
  obtain ⟨g1, g2, g3⟩ := gd_at ⟨n, hn⟩
  replace g1 : nm [UInt8.ofNat n] = gd (n : Int) := g1
  replace g2 : ofs.contains (UInt8.ofNat n) = (gd (n : Int) || ((n : Int) == 46)) := g2
  replace g3 : ofs.contains (UInt8.ofNat n) = true → nm [97, UInt8.ofNat n] = true ∧ nm [97, UInt8.ofNat n, 97] = true := g3
  rw [he]
  have hd : (strOfNums [(n : Int)]).data.toList = [UInt8.ofNat n] := by rw [strOfNums_data]; simp
  have hz : (strOfNums [(n : Int)]).size = 1 := by rw [strOfNums_size]; rfl
  have m1 : name_May.f (strOfNums [(n : Int)]) = some (gd (n : Int)) := by rw [may_eq _ (by omega), hd, g1]
  have hp : ((⟨#[97]⟩ : ByteArray)).data.toList = [97] := rfl
  have hpz : ((⟨#[97]⟩ : ByteArray)).size = 1 := rfl
  rw [portagelaw10_NameBytes.j0, Option.bind_some, m1, Option.bind_some, if_neg (by simp)]
  unfold portagelaw0_Num.f
  rw [Option.bind_some, show ((0 : Int) != 0) = false from rfl, portagelaw10_NameBytes.j1, if_neg (by decide)]
  have e1 : name_May.f ((⟨#[97]⟩ : ByteArray) ++ strOfNums [(n : Int)]) = some (nm [97, UInt8.ofNat n]) := by
    rw [may_eq _ (by rw [ByteArray.size_append]; omega), app_list, hd, hp]; rfl
  have e2 : name_May.f (strOfNums [(n : Int)] ++ (⟨#[97]⟩ : ByteArray)) = some (nm [UInt8.ofNat n, 97]) := by
    rw [may_eq _ (by rw [ByteArray.size_append]; omega), app_list, hd, hp]; rfl
  have e3 : name_May.f (((⟨#[97]⟩ : ByteArray) ++ strOfNums [(n : Int)]) ++ (⟨#[97]⟩ : ByteArray)) = some (nm [97, UInt8.ofNat n, 97]) := by
    rw [may_eq _ (by rw [ByteArray.size_append, ByteArray.size_append]; omega), app_list, app_list, hd, hp]; rfl
  have e4 : name_May.f (a1 ++ strOfNums [(n : Int)]) = some (nm (a1.data.toList ++ [UInt8.ofNat n])) := by
    rw [may_eq _ (by rw [ByteArray.size_append]; omega), app_list, hd]
  have yes : ofs.contains (UInt8.ofNat n) = true → portagelaw10_NameBytes.j2 3 a1 (strOfNums [(n : Int)]) false = some true := fun hc => by
    obtain ⟨q1, q2⟩ := g3 hc
    rw [portagelaw10_NameBytes.j2, if_neg (by decide), if_pos (by omega), e1, Option.bind_some, q1, if_pos rfl, if_pos (by rw [ByteArray.size_append]; omega), e3, Option.bind_some, q2]
  have no : ofs.contains (UInt8.ofNat n) = false → portagelaw10_NameBytes.j2 3 a1 (strOfNums [(n : Int)]) true = some true := fun hc => by
    rw [portagelaw10_NameBytes.j2, if_pos rfl, if_pos (by omega), e1, Option.bind_some, nm_bad (l := [97, UInt8.ofNat n]) (by simp) hc, if_neg (by decide), if_pos (by omega), e2, Option.bind_some, nm_bad (l := [UInt8.ofNat n, 97]) (by simp) hc, if_neg (by decide), if_pos (by omega), e4, Option.bind_some, nm_bad (l := a1.data.toList ++ [UInt8.ofNat n]) (by simp) hc]
    rfl
  by_cases h1 : gd (n : Int) = true
  · rw [if_pos h1]
    exact yes (by rw [g2, h1, Bool.true_or])
  · rw [if_neg h1]
    replace h1 := Bool.eq_false_iff.mpr h1
    rw [h1, Bool.false_or] at g2
    by_cases h2 : (n : Int) = 46
    · rw [show ((n : Int) != 46) = false from bne_eq_false_iff_eq.mpr h2]
      exact yes (by rw [g2, h2]; rfl)
    · rw [show ((n : Int) != 46) = true from bne_iff_ne.mpr h2]
      exact no (by rw [g2]; exact beq_eq_false_iff_ne.mpr h2)
end Go.Proofs.YtdccnjinehcenaaDoor.Pure
