import Derived.Test.YtnjbbfcknijcnaaExtraPE
import Derived.Test.YtnjbbfcknijcnaaSameIE
import Derived.Test.YtnjbbfcknijcnaaE7
import Derived.Test.YtnjbbfcknijcnaaE6
import Derived.Test.YtnjbbfcknijcnaaBits
namespace Go.Proofs.Ytnjbbfcknijcnaa.Pure
set_option linter.unusedVariables false
set_option linter.unusedSimpArgs false
open Go.RowKit Go.Proofs.Ytnjbbfcknijcnaa.E Go.Proofs.YtnjbbfcknijcnaaW.PrintWords Go.Proofs.YtnjbbfcknijcnaaW.PrintLast Go.Proofs.YtnjbbfcknijcnaaW.PrintMore
theorem awake_true {k : Nat} (hk : 150 ≤ k) : portagelaw12_awake.f k = some true := at_rounds (g := fun k => portagelaw12_awake.f k) portagelaw12_awake.mono hk (by decide +kernel)
theorem num1 (n : Int) : portagelaw0_Num.f n = some n := rfl
theorem sameE (n : ByteArray) (g : Bool) (v : List Int) (a b c : Int) (p : ByteArray) (z d : Int) (hv : v.length ≤ 1000) {k : Nat} (hk : 1001 ≤ k) : portagelaw0_SameEntry.f k n g v a b c p z d n g v a b c p z d = some true := by
  unfold portagelaw0_SameEntry.f
  rw [if_pos rfl, if_pos (by simp), same_k v v (by omega) (by omega), decide_eq_true rfl, Option.bind_some, if_pos rfl, if_pos rfl, if_pos rfl, if_pos rfl, if_pos rfl, if_pos rfl]
  simp
theorem j2_k (s : ByteArray) {K : Nat} (hK : 2000 ≤ K) : portagelaw12_ExtraBack.j2 K s false = some true := by
  obtain ⟨q, rfl⟩ : ∃ q, K = q + 1 := ⟨K - 1, by omega⟩
  obtain ⟨g, v, a, b, h⟩ := get_any s (k := q) (by omega)
  rw [portagelaw12_ExtraBack.j2, if_neg (by decide), h, Option.bind_some]
  unfold fin
  by_cases hc : mayE v a b = true ∧ (strOfNums (putL v a b g)).toList = s.toList
  · rw [if_pos hc, num1, Option.bind_some]
    dsimp only
    rw [if_pos rfl, put_k _ _ _ _ _ _ _ _ _ (by omega), Option.bind_some, if_pos hc.1]
    dsimp only
    rw [num1, Option.bind_some, if_pos rfl, hc.2]
    simp
  · rw [if_neg hc, num1, Option.bind_some]
    dsimp only
    rw [if_neg (by omega), sameE _ _ _ _ _ _ _ _ _ (by simp) (by omega), Option.bind_some]
theorem putL_length (v : List Int) (a b : Int) (g : Bool) (hv : v.length = 4) : (putL v a b g).length = 26 := by
  match v, hv with
  | [x, y, z, w], _ => unfold putL endL; simp [lowL_length]
theorem j1_k (s : ByteArray) (g : Bool) (v : List Int) (a b : Int) (hm : mayE v a b = true) {K : Nat} (hK : 3000 ≤ K) : portagelaw12_ExtraBack.j1 K s ⟨#[]⟩ g v a b 0 ⟨#[]⟩ 0 0 = some true := by
  obtain ⟨q, rfl⟩ : ∃ q, K = q + 1 := ⟨K - 1, by omega⟩
  have hv := (mayE_parts hm).1
  rw [portagelaw12_ExtraBack.j1, put_k _ _ _ _ _ _ _ _ _ (by omega), Option.bind_some, if_pos hm]
  dsimp only
  rw [get_put v a b g hm (by omega), Option.bind_some, num1, Option.bind_some, if_pos rfl, if_pos (by rw [strOfNums_size, putL_length v a b g hv]; rfl)]
  rw [Option.bind_some, if_pos rfl, sameE _ _ _ _ _ _ _ _ _ (by omega) (by omega), Option.bind_some]
  exact j2_k s (by omega)
theorem back_l0 (l : List Int) (s : ByteArray) (g : Bool) (a b : Int) (ha : 1 ≤ a ∧ a ≤ 65536) (hb : 0 ≤ b ∧ b < 4) : ∀ (d i : Nat) (x : List Int), i + d = 4 → x.length = 4 → (∀ y ∈ x, 0 ≤ y ∧ y ≤ 65535) → ∀ K, 3010 + d ≤ K →
    portagelaw12_ExtraBack.l0 K l s (i : Int) ⟨#[]⟩ g x a b 0 ⟨#[]⟩ 0 0 = some true := by
  have fin : ∀ (x : List Int), x.length = 4 → (∀ y ∈ x, 0 ≤ y ∧ y ≤ 65535) → mayE x a b = true := by
    intro x hx hy
    unfold mayE vok okc nodeOk
    simp only [Bool.and_eq_true, decide_eq_true_eq, List.all_eq_true]
    exact ⟨⟨hx, fun y h => ⟨(hy y h).1, by have := (hy y h).2; omega⟩⟩, ha.1, ⟨by omega, by omega⟩, hb⟩
  intro d
  induction d with
  | zero =>
    intro i x hi hx hy K hK
    obtain ⟨q, rfl⟩ : ∃ q, K = q + 1 := ⟨K - 1, by omega⟩
    rw [portagelaw12_ExtraBack.l0, if_neg (by omega)]
    exact j1_k s g x a b (fin x hx hy) (by omega)
  | succ d ih =>
    intro i x hi hx hy K hK
    obtain ⟨q, rfl⟩ : ∃ q, K = q + 1 := ⟨K - 1, by omega⟩
    rw [portagelaw12_ExtraBack.l0, if_pos (by omega)]
    by_cases h : (i : Int) < (l.length : Int)
    · rw [if_pos h, if_pos (by omega), if_pos (by omega), w64 (by omega) (by omega), show (i : Int) + 1 = ((i + 1 : Nat) : Int) from by omega, Bits.and_16]
      refine ih (i + 1) _ (by omega) (by simp [hx]) (fun y hyy => ?_) q (by omega)
      rcases List.mem_or_eq_of_mem_set hyy with h1 | h1
      · exact hy y h1
      · subst h1; omega
    · rw [if_neg h]
      exact j1_k s g x a b (fin x hx hy) (by omega)
theorem ExtraBack : portagelaw12_ExtraBack.Pure := by
  intro l a b g s _ _ _ _ _ _
  refine ⟨4000, ?_⟩
  unfold portagelaw12_ExtraBack.f
  rw [awake_true (by omega), Option.bind_some, if_pos rfl, if_pos (by decide)]
  have h1 : 1 ≤ wrap64 (1 + Go.bits .and .i64 a 65535) ∧ wrap64 (1 + Go.bits .and .i64 a 65535) ≤ 65536 := by rw [Bits.and_16, w64 (by omega) (by omega)]; omega
  have h2 : 0 ≤ Go.bits .and .i64 b 3 ∧ Go.bits .and .i64 b 3 < 4 := by rw [Bits.and_2]; omega
  exact back_l0 l s g _ _ h1 h2 4 0 (List.replicate 4 0) rfl rfl (fun y hy => by simp at hy; omega) 4000 (by omega)
end Go.Proofs.Ytnjbbfcknijcnaa.Pure
