import Derived.Test.YtbifignggnfodaaBitsAB
import Derived.Test.YtbifignggnfodaaB9
namespace Go.Proofs.Ytbifignggnfodaa.Pure
set_option linter.unusedVariables false
set_option linter.unusedSimpArgs false
open Go Go.RowKit Go.Proofs.Ytbifignggnfodaa.B Go.Proofs.YtbifignggnfodaaW.PrintWords Go.Proofs.YtbifignggnfodaaW.PrintLast Go.Proofs.YtbifignggnfodaaW.PrintMore Go.Proofs.Ytbifignggnfodaa.BitsM
theorem WriteAligns : portagelaw1_WriteAligns.Pure := by
  intro a x _ _
  refine ⟨100, ?_⟩
  obtain ⟨k, hk, hk16⟩ : ∃ k : Nat, Go.bits .and .i64 a 15 = (k : Int) ∧ k < 16 := ⟨(a % 16).toNat, by rw [Bits.and_4]; omega, by omega⟩
  have hv := toNat_lt x k
  have hm := mask x k (by omega)
  generalize (x % ((2 ^ k : Nat) : Int)).toNat = v at hv hm
  obtain ⟨L1, e1, h1⟩ := put_ok [] 0 0 v k IsW.nil (by omega) hv (by omega) (K := 100) (by omega)
  rw [Nat.pow_zero, Nat.mul_one, Nat.zero_add, Nat.zero_add] at h1
  rw [Nat.zero_add] at e1
  have hl1 := h1.len
  have h2 := h1.up
  obtain ⟨L2, e2, h3⟩ := put_ok L1 (8 * L1.length) v 165 8 h2 (by omega) (by decide) (by omega) (K := 100) (by omega)
  have hl2 := h3.len
  have hz : (strOfNums L2).size = L2.length := strOfNums_size L2
  have eN : num L2 = v + 165 * 2 ^ (8 * L1.length) := h3.e
  have hle : 2 ^ k ≤ 2 ^ (8 * L1.length) := Nat.pow_le_pow_right (by decide) (by omega)
  have hN1 : num L2 / 2 ^ 0 % 2 ^ k = v := by
    rw [eN, Nat.pow_zero, Nat.div_one, show 8 * L1.length = k + (8 * L1.length - k) from by omega, Nat.pow_add, show 165 * (2 ^ k * 2 ^ (8 * L1.length - k)) = 2 ^ k * (165 * 2 ^ (8 * L1.length - k)) from by ac_rfl, Nat.add_mul_mod_self_left, Nat.mod_eq_of_lt hv]
  have hN2 : num L2 / 2 ^ (8 * L1.length) % 2 ^ 8 = 165 := by
    rw [eN, Nat.add_mul_div_right _ _ (Nat.pow_pos (by decide)), Nat.div_eq_of_lt (Nat.lt_of_lt_of_le hv hle)]
  have g1 := get_ok h3.b (by omega) 0 k (by omega) (by omega) (K := 100) (by omega)
  rw [hN1, Nat.zero_add] at g1
  have r1 := align_r (strOfNums L2) k (by omega)
  have r2 := align_r (strOfNums L2) (8 * L1.length) (by omega)
  rw [show (k + 7) / 8 * 8 = 8 * L1.length from by omega] at r1
  rw [show (8 * L1.length + 7) / 8 * 8 = 8 * L1.length from by omega] at r2
  have g2 := get_ok h3.b (by omega) (8 * L1.length) 8 (by omega) (by omega) (K := 100) (by omega)
  rw [hN2] at g2
  have g3 := get_end (L := L2) (by omega) (8 * L1.length + 8) 1 (by omega) (by omega) (by omega) (K := 100) (by omega)
  have a1 := align_w L1 k v h1 (by omega)
  have a2 := align_w L1 (8 * L1.length) v h2 (by omega)
  have ed : Int.tdiv ((k + 7 : Nat) : Int) 8 = (((k + 7) / 8 : Nat) : Int) := tdivN (k + 7) 8
  unfold portagelaw1_WriteAligns.f
  rw [awake_true (by omega), Option.bind_some, if_pos rfl, hk, if_pos (by omega), hm]
  have e1 : bits_Writer_Put.f 100 [] 0 (v : Int) (k : Int) = _ := e1
  have e2 : bits_Writer_Put.f 100 L1 ((8 * L1.length : Nat) : Int) 165 8 = _ := e2
  have g1 : bits_Reader_Get.f 100 (strOfNums L2) 0 (k : Int) = _ := g1
  have g2 : bits_Reader_Get.f 100 (strOfNums L2) ((8 * L1.length : Nat) : Int) 8 = some (165, 0, strOfNums L2, ((8 * L1.length + 8 : Nat) : Int)) := g2
  have g3 : bits_Reader_Get.f 100 (strOfNums L2) ((8 * L1.length + 8 : Nat) : Int) 1 = _ := g3
  rw [e1, Option.bind_some]
  dsimp only
  rw [a1, Option.bind_some]
  dsimp only
  rw [a2, Option.bind_some]
  dsimp only
  rw [e2, Option.bind_some]
  dsimp only
  rw [text_k, Option.bind_some]
  dsimp only
  rw [g1, Option.bind_some]
  dsimp only
  rw [r1, Option.bind_some]
  dsimp only
  rw [r2, Option.bind_some]
  dsimp only
  rw [g2, Option.bind_some]
  dsimp only
  rw [g3, Option.bind_some]
  dsimp only
  rw [num1, Option.bind_some, if_pos rfl, num1, Option.bind_some, if_pos rfl, Option.bind_some, if_pos rfl, Option.bind_some, if_pos rfl, w64 (n := (k : Int) + 7) (by omega) (by omega), show (k : Int) + 7 = ((k + 7 : Nat) : Int) from by omega, ed, w64 (n := (((k + 7) / 8 : Nat) : Int)) (by omega) (by omega), w64 (n := (((k + 7) / 8 : Nat) : Int) + 1) (by omega) (by omega), if_pos (by omega), if_pos rfl,
    Option.bind_some, if_pos rfl, Option.bind_some, if_pos rfl, Option.bind_some, if_pos rfl, if_pos rfl, Option.bind_some, if_pos rfl, Option.bind_some]
  rfl
end Go.Proofs.Ytbifignggnfodaa.Pure
