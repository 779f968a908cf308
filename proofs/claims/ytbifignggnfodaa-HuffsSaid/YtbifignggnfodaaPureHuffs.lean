import Derived.Test.YtbifignggnfodaaHuffLHH
import Derived.Test.YtbifignggnfodaaHuffWHH
import Derived.Test.YtbifignggnfodaaHuffRHH
import Derived.Test.YtbifignggnfodaaLendLHH
import Derived.Test.YtbifignggnfodaaHH8
import Derived.Test.YtbifignggnfodaaHH6
import Derived.Test.YtbifignggnfodaaHH7
namespace Go.Proofs.Ytbifignggnfodaa.Pure
set_option linter.unusedVariables false
set_option linter.unusedSimpArgs false
open Go.RowKit Go.Proofs.Ytbifignggnfodaa.HH Go.Proofs.YtbifignggnfodaaW.PrintWords Go.Proofs.YtbifignggnfodaaW.PrintLast Go.Proofs.YtbifignggnfodaaW.PrintMore Go.Proofs.Ytbifignggnfodaa.HuffM
namespace HS
theorem same_loop (x : List S43) (hx : x.length ≤ 288) : ∀ (d i K : Nat), i + d = x.length → d + 1 ≤ K → portagelaw0_SameCodes.l0 K x x (i : Int) = some true
  | 0, i, K, hi, hK => by
    obtain ⟨m, rfl⟩ : ∃ m, K = m + 1 := ⟨K - 1, by omega⟩
    rw [portagelaw0_SameCodes.l0, if_neg (by omega)]
  | d + 1, i, K, hi, hK => by
    obtain ⟨m, rfl⟩ : ∃ m, K = m + 1 := ⟨K - 1, by omega⟩
    have hw : wrap64 ((i : Int) + 1) = ((i + 1 : Nat) : Int) := by unfold wrap64; omega
    rw [portagelaw0_SameCodes.l0, if_pos (by omega), if_pos (by omega), if_pos (by omega), if_neg (by simp), hw]
    exact same_loop x hx d (i + 1) m (by omega) (by omega)
theorem same_codes (x : List S43) (hx : x.length ≤ 288) {K : Nat} (hK : 300 ≤ K) : portagelaw0_SameCodes.f K x x = some true := by
  unfold portagelaw0_SameCodes.f
  rw [if_pos rfl]
  exact same_loop x hx x.length 0 K (by omega) (by omega)
theorem spoil_loop : ∀ (d i : Nat) (x : List S43), i + d = x.length → x.length ≤ 288 → ∀ K, d + 1 ≤ K → ∃ r, portagelaw0_SpoilCodes.l0 K x (i : Int) = some r
  | 0, i, x, hi, hx, K, hK => by
    obtain ⟨m, rfl⟩ : ∃ m, K = m + 1 := ⟨K - 1, by omega⟩
    exact ⟨x, by rw [portagelaw0_SpoilCodes.l0, if_neg (by omega)]⟩
  | d + 1, i, x, hi, hx, K, hK => by
    obtain ⟨m, rfl⟩ : ∃ m, K = m + 1 := ⟨K - 1, by omega⟩
    have hw : wrap64 ((i : Int) + 1) = ((i + 1 : Nat) : Int) := by unfold wrap64; omega
    obtain ⟨r, hr⟩ := spoil_loop d (i + 1) (x.set (i : Int).toNat (⟨Go.bits .xor .i64 ((rd_T43 x (i : Int)).f0) 90, (rd_T43 x (i : Int)).f1⟩ : S43)) (by simp; omega) (by simpa using hx) m (by omega)
    exact ⟨r, by rw [portagelaw0_SpoilCodes.l0, if_pos (by omega), if_pos (by omega), hw]; exact hr⟩
theorem codes_small (l : List Int) (x : List S43) (e : Int) (h : huff_Codes.f l = some (x, e)) : x.length ≤ 288 := by
  cases hm : huffMay l with
  | false => rw [codes_form hm] at h; have := (Prod.mk.inj (Option.some.inj h)).1; subst this; decide
  | true =>
    by_cases hr : room l 16 ≤ 32768
    · rw [codes_yes hm hr] at h
      have := (Prod.mk.inj (Option.some.inj h)).1
      subst this
      rw [huffCodes_length]
      exact (huffMay_out hm).1
    · rw [codes_over hm (by omega)] at h; have := (Prod.mk.inj (Option.some.inj h)).1; subst this; decide
theorem find_some (l : List Int) (b v : Int) (hv : -9223372036854775808 ≤ v ∧ v ≤ 9223372036854775807) : ∃ r, huff_Find.f l b v = some r := by
  cases hm : huffMay l with
  | false => exact ⟨_, find_form hm b v⟩
  | true =>
    by_cases hr : room l 16 ≤ 32768
    · by_cases hb : b < 1 ∨ b > 15
      · exact ⟨_, find_far hm hr b v hb⟩
      · obtain ⟨n, rfl⟩ : ∃ n : Nat, b = (n : Int) := ⟨b.toNat, by omega⟩
        exact ⟨_, find_at hm hr n (by omega) (by omega) v hv⟩
    · exact ⟨_, find_over hm (by omega) b v⟩
end HS
open HS in
theorem Huffs : portagelaw3_Huffs.Pure := by
  intro l b v hl1 hl2 _ _ hvw
  have hv : -9223372036854775808 ≤ v ∧ v ≤ 9223372036854775807 := by
    have h : IntKind.i64.min ≤ v ∧ v ≤ 9223372036854775807 := by simpa [Lit.wf] using hvw
    exact ⟨h.1, h.2⟩
  refine ⟨l.length + 5100, ?_⟩
  obtain ⟨⟨x, e⟩, hx⟩ : ∃ p, huff_Codes.f l = some p := ⟨_, rfl⟩
  obtain ⟨⟨s, is, f⟩, hf⟩ := find_some l b v hv
  obtain ⟨c, hc⟩ : ∃ c, huff_Check.f l = some c := ⟨_, rfl⟩
  have hxs := codes_small l x e hx
  obtain ⟨r, hr⟩ := spoil_loop x.length 0 x (by omega) hxs (l.length + 5100) (by omega)
  have hr' : portagelaw0_SpoilCodes.f (l.length + 5100) x = some r := hr
  unfold portagelaw3_Huffs.f
  rw [lend_k l (by omega), Option.bind_some]
  dsimp only
  rw [hx, Option.bind_some, refCodes l (by omega), hx, Option.bind_some, hf, Option.bind_some, refFind l b v hv (by omega), hf, Option.bind_some]
  dsimp only
  rw [same_codes x hxs (by omega), Option.bind_some, if_pos rfl, num1, Option.bind_some, if_pos rfl, if_pos rfl, if_neg (by simp), num1, Option.bind_some, if_pos rfl, hc, Option.bind_some, num1, Option.bind_some, refCheck l (by omega), hc, Option.bind_some, if_pos rfl, hr', Option.bind_some, kept_k l (by omega) (by omega), Option.bind_some, if_pos rfl, huffAwake (by omega)]
  rfl
end Go.Proofs.Ytbifignggnfodaa.Pure
