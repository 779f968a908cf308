/- Strings in order: one is not behind another one just if that one is not ahead of it. -/
import Derived.RowKit
namespace Go.Proofs.YtneogampbohfnaaDoorW.Lq
set_option linter.unusedSimpArgs false
theorem leq_not : ∀ (a b : List UInt8), (Op.bytesLess a b || a == b) = !Op.bytesLess b a
  | [], [] => by simp [Op.bytesLess]
  | [], _ :: _ => by simp [Op.bytesLess]
  | _ :: _, [] => by simp [Op.bytesLess]
  | x :: a, y :: b => by
    have ih := leq_not a b
    have hx : ∀ u v : UInt8, u = v ↔ u.toNat = v.toNat := fun u v => ⟨fun h => by rw [h], fun h => UInt8.toNat_inj.mp h⟩
    simp only [Op.bytesLess, List.cons_beq_cons]
    rcases Nat.lt_trichotomy x.toNat y.toNat with h | h | h
    · have h1 : x < y := UInt8.lt_iff_toNat_lt.mpr h
      have h2 : ¬ y < x := fun h' => by have := UInt8.lt_iff_toNat_lt.mp h'; omega
      have h3 : ¬ y = x := fun h' => by have := (hx _ _).mp h'; omega
      have h4 : ¬ x = y := fun h' => h3 h'.symm
      simp [h1, h2, h3, h4]
    · have h1 := UInt8.toNat_inj.mp h
      subst h1
      have h2 : ¬ x < x := fun h' => by have := UInt8.lt_iff_toNat_lt.mp h'; omega
      simpa [h2] using ih
    · have h1 : y < x := UInt8.lt_iff_toNat_lt.mpr h
      have h2 : ¬ x < y := fun h' => by have := UInt8.lt_iff_toNat_lt.mp h'; omega
      have h3 : ¬ y = x := fun h' => by have := (hx _ _).mp h'; omega
      have h4 : ¬ x = y := fun h' => h3 h'.symm
      simp [h1, h2, h3, h4]
theorem leq_of {a b : List UInt8} {c : Bool} (h : Op.bytesLess b a = c) : (Op.bytesLess a b || a == b) = !c := by rw [leq_not, h]
end Go.Proofs.YtneogampbohfnaaDoorW.Lq
