import Derived.Test.YtnjbbfcknijcnaaExtraPU
import Derived.Test.YtnjbbfcknijcnaaSameIU
import Derived.Test.YtnjbbfcknijcnaaU6
import Derived.Test.YtnjbbfcknijcnaaU7
import Derived.Test.YtnjbbfcknijcnaaUOExtraUnlike
namespace Go.Proofs.Ytnjbbfcknijcnaa.Pure
set_option linter.unusedVariables false
set_option linter.unusedSimpArgs false
open Go.RowKit Go.Proofs.Ytnjbbfcknijcnaa.U Go.Proofs.YtnjbbfcknijcnaaW.PrintWords Go.Proofs.YtnjbbfcknijcnaaW.PrintLast Go.Proofs.YtnjbbfcknijcnaaW.PrintMore
namespace XU
theorem awake_true {k : Nat} (hk : 150 ≤ k) : portagelaw12_awake.f k = some true := at_rounds (g := fun k => portagelaw12_awake.f k) portagelaw12_awake.mono hk (by decide +kernel)
theorem num1 (n : Int) : portagelaw0_Num.f n = some n := rfl
theorem inj {v v' : List Int} {s n s' n' : Int} {g g' : Bool} (h : mayE v s n = true) (h' : mayE v' s' n' = true) (e : (strOfNums (putL v s n g)).toList = (strOfNums (putL v' s' n' g')).toList) : g = g' ∧ v = v' ∧ s = s' ∧ n = n' := by
  have e' : strOfNums (putL v s n g) = strOfNums (putL v' s' n' g') := Go.WideShapes.bytes_inj (by rw [ByteArray.toList_eq, ByteArray.toList_eq] at e; exact e)
  have a := get_put v s n g h (k := 100) (by decide)
  have b := get_put v' s' n' g' h' (k := 100) (by decide)
  rw [e', b] at a
  simp only [Option.some.injEq, Prod.mk.injEq] at a
  exact ⟨a.2.1.symm, a.2.2.1.symm, a.2.2.2.1.symm, a.2.2.2.2.1.symm⟩
/-- two heads that may be -/
theorem both (a : ByteArray) (b : Bool) (v : List Int) (s n m : Int) (p : ByteArray) (z c : Int) (a' : ByteArray) (b' : Bool) (v' : List Int) (s' n' m' : Int) (p' : ByteArray) (z' c' : Int) (ha : a.size ≤ 140737488351232) (h : mayE v s n = true) (h' : mayE v' s' n' = true) {K : Nat} (hK : 100 ≤ K) :
    portagelaw12_ExtraUnlike.j0 (K + 1) (strOfNums (putL v s n b)) 0 (strOfNums (putL v' s' n' b')) 0 false a b v s n m p z c a' b' v' s' n' m' p' z' c' = some true := by
  have hv := (mayE_parts h).1
  have hsame := same_k v v' (by omega) (k := K) (by omega)
  rw [portagelaw12_ExtraUnlike.j0, if_neg (by decide)]
  unfold portagelaw0_CopyEntry.f
  rw [Option.bind_some, if_pos (by rw [List.length_nil, hv]; decide), Option.bind_some]
  dsimp only
  rw [if_pos (by omega), List.nil_append, put_k _ _ _ _ _ _ _ _ _ (by omega), if_pos h, Option.bind_some, hsame, Option.bind_some]
  dsimp only
  rw [num1]
  by_cases e : (strOfNums (putL v s n b)).toList = (strOfNums (putL v' s' n' b')).toList
  · obtain ⟨rfl, rfl, rfl, rfl⟩ := inj h h' e
    rw [if_pos (by simp), if_pos rfl, if_pos rfl, if_pos (by simp), if_pos rfl]
    rfl
  · have eb : ((strOfNums (putL v s n b)).toList == (strOfNums (putL v' s' n' b')).toList) = false := by
      rw [beq_eq_false_iff_ne]; exact e
    rw [eb]
    have r : (if (strOfNums (putL v s n b)).toList = (strOfNums (putL v s n b)).toList then (some (0 : Int)).bind fun t235 => some (t235 == 0) else none) = some true := by rw [if_pos rfl]; rfl
    by_cases hv' : v = v'
    · by_cases hs' : s = s'
      · by_cases hn' : n = n'
        · by_cases hb' : b = b'
          · subst hv' hs' hn' hb'
            exact absurd rfl e
          · rw [if_pos (by simp [hv']), if_pos hs', if_pos hn', if_pos (by simp [hb']), r]
        · rw [if_pos (by simp [hv']), if_pos hs', if_neg hn', if_pos (by decide), r]
      · rw [if_pos (by simp [hv']), if_neg hs', if_pos (by decide), r]
    · rw [if_neg (by simp [hv']), if_pos (by decide), r]
end XU
open XU in
theorem ExtraUnlike : portagelaw12_ExtraUnlike.Pure := by
  intro a b v s n m p z c a' b' v' s' n' m' p' z' c' hS _
  have ha : a.size ≤ 140737488351232 := hS.1
  have e0 : (⟨#[]⟩ : ByteArray).toList = ([] : List UInt8) := by rw [ByteArray.toList_eq]
  refine ⟨201, ?_⟩
  unfold portagelaw12_ExtraUnlike.f
  rw [awake_true (by decide), Option.bind_some, if_pos rfl, put_k _ _ _ _ _ _ _ _ _ (by decide), put_k _ _ _ _ _ _ _ _ _ (by decide), Option.bind_some, Option.bind_some]
  by_cases h : mayE v s n = true
  · rw [if_pos h]
    by_cases h' : mayE v' s' n' = true
    · rw [if_pos h']
      dsimp only
      rw [num1, Option.bind_some, if_pos rfl, Option.bind_some]
      exact both a b v s n m p z c a' b' v' s' n' m' p' z' c' ha h h' (by decide)
    · rw [if_neg h']
      dsimp only
      rw [num1, Option.bind_some, if_pos rfl, num1, Option.bind_some, portagelaw12_ExtraUnlike.j0, if_pos (by decide), num1, Option.bind_some, if_pos rfl, num1, Option.bind_some, if_neg (by decide), e0]
      rfl
  · rw [if_neg h]
    by_cases h' : mayE v' s' n' = true
    · rw [if_pos h']
      dsimp only
      rw [num1, Option.bind_some, if_neg (by decide), portagelaw12_ExtraUnlike.j0, if_pos (by decide), num1, Option.bind_some, if_neg (by decide), if_pos e0, num1, Option.bind_some, if_pos rfl]
    · rw [if_neg h']
      dsimp only
      rw [num1, Option.bind_some, if_neg (by decide), portagelaw12_ExtraUnlike.j0, if_pos (by decide), num1, Option.bind_some, if_neg (by decide), if_pos e0, Option.bind_some, if_neg (by decide), e0]
      rfl
end Go.Proofs.Ytnjbbfcknijcnaa.Pure
