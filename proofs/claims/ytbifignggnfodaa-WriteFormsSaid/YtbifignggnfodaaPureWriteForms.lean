import Derived.Test.YtbifignggnfodaaBitsAB
import Derived.Test.YtbifignggnfodaaB7
namespace Go.Proofs.Ytbifignggnfodaa.Pure
set_option linter.unusedVariables false
set_option linter.unusedSimpArgs false
open Go Go.RowKit Go.Proofs.Ytbifignggnfodaa.B Go.Proofs.YtbifignggnfodaaW.PrintWords Go.Proofs.YtbifignggnfodaaW.PrintLast Go.Proofs.YtbifignggnfodaaW.PrintMore Go.Proofs.Ytbifignggnfodaa.BitsM
namespace WF
theorem isB_ab : isB [97, 98] := by
  intro x hx
  simp only [List.mem_cons, List.not_mem_nil, or_false] at hx
  omega
theorem ab : (⟨#[97, 98]⟩ : ByteArray) = strOfNums [97, 98] := by decide +kernel
theorem loop (w d : Int) (L : List Int) (n : Int) (k : Nat) (hd : 1 ≤ d ∧ d ≤ 1024) (hn : n = 1) (hL : L = [1]) (m : Nat) (hm : m < 17) (hw : Int.tmod (IntKind.u64.wrap w) 17 = (m : Int)) : portagelaw1_WriteForms.l0 (k + 40) w d [100, 100, 100, 100, 100, 100, 100, 100, 100, 100] 0 L n = some true := by
  have g1 := get_no (strOfNums [97, 98]) 0 (wrap64 (-d)) (by rw [w64 (by omega) (by omega)]; omega) (K := k + 29) (by omega)
  have g2 := get_no (strOfNums [97, 98]) 0 (wrap64 (16 + d)) (by rw [w64 (by omega) (by omega)]; omega) (K := k + 29) (by omega)
  have g3 := get_ok isB_ab (by decide) 0 m (by omega) (by show 0 + m ≤ 8 * 2; omega) (K := k + 29) (by omega)
  have hN : num [97, 98] / 2 ^ 0 % 2 ^ m = 25185 % 2 ^ m := by rw [Nat.pow_zero, Nat.div_one]; rfl
  rw [hN, Nat.zero_add] at g3
  have g3 : bits_Reader_Get.f (k + 29) (strOfNums [97, 98]) 0 (m : Int) = _ := g3
  have hr : ∀ i : Nat, i < 10 → rd [100, 100, 100, 100, 100, 100, 100, 100, 100, 100] (i : Int) = 100 := by
    intro i hi
    have : i = 0 ∨ i = 1 ∨ i = 2 ∨ i = 3 ∨ i = 4 ∨ i = 5 ∨ i = 6 ∨ i = 7 ∨ i = 8 ∨ i = 9 := by omega
    rcases this with h | h | h | h | h | h | h | h | h | h <;> subst h <;> rfl
  have step : ∀ (d' i K : Nat), i + d' = 10 → portagelaw1_WriteForms.l0 (K + d') w d [100, 100, 100, 100, 100, 100, 100, 100, 100, 100] (i : Int) L n = portagelaw1_WriteForms.l0 K w d [100, 100, 100, 100, 100, 100, 100, 100, 100, 100] 10 L n := by
    intro d'
    induction d' with
    | zero => intro i K hi; obtain rfl : i = 10 := by omega
              rfl
    | succ d' ih =>
      intro i K hi
      have := ih (i + 1) K (by omega)
      rw [show K + (d' + 1) = (K + d') + 1 from by omega, portagelaw1_WriteForms.l0, if_pos (by show (i : Int) < 10; omega), if_pos (by omega), hr i (by omega), if_pos rfl, w64 (by omega) (by omega)]
      exact this
  have := step 10 0 (k + 30) rfl
  refine this.trans ?_
  have hmask := Bits.and_mask 25185 m (by omega)
  have hM := maskW m (by omega)
  rw [portagelaw1_WriteForms.l0, if_neg (by decide), ab, g1, Option.bind_some]
  dsimp only
  rw [g2, Option.bind_some]
  dsimp only
  have ht : (Int.tmod (IntKind.u64.wrap (w)) 17) = (m : Int) := hw
  have hw3 : wrap64 (m : Int) = (m : Int) := w64 (by omega) (by omega)
  rw [ht, hw3, g3, Option.bind_some]
  dsimp only
  rw [len_k, Option.bind_some]
  dsimp only
  rw [if_pos hn, text_k, Option.bind_some]
  dsimp only
  subst hL
  rw [if_pos (by decide +kernel), num1, Option.bind_some, if_pos rfl, Option.bind_some, if_pos rfl, num1, Option.bind_some, if_pos rfl, if_pos (Int.natCast_nonneg m), hM, hmask]
  have e : ((25185 % 2 ^ m : Nat) : Int) = (25185 : Int) % ((2 ^ m : Nat) : Int) := by rfl
  rw [← e]
  simp
end WF
open WF in
theorem WriteForms : portagelaw1_WriteForms.Pure := by
  intro w x _ _
  refine ⟨100, ?_⟩
  obtain ⟨d, hd, hd1, hd2⟩ : ∃ d : Int, wrap64 (1 + Go.bits .and .i64 x 1023) = d ∧ 1 ≤ d ∧ d ≤ 1024 := by
    refine ⟨1 + x % 1024, ?_, ?_, ?_⟩
    · rw [Bits.and_10]
      exact w64 (by omega) (by omega)
    · omega
    · omega
  obtain ⟨L, e1, h1⟩ := put_ok [] 0 0 1 1 IsW.nil (by omega) (by decide) (by omega) (K := 100) (by omega)
  have hL : L = [1] := uniq L [1] h1.b (by intro y hy; rw [List.mem_singleton] at hy; omega) h1.len h1.e
  have e1 : bits_Writer_Put.f 100 [] 0 1 1 = some (0, L, ((1 : Nat) : Int)) := e1
  have hm : ∃ m : Nat, Int.tmod (IntKind.u64.wrap w) 17 = (m : Int) ∧ m < 17 := by
    have h0 : 0 ≤ IntKind.u64.wrap w := by
      show 0 ≤ w % 18446744073709551616
      omega
    generalize IntKind.u64.wrap w = z at h0
    exact ⟨(z % 17).toNat, by rw [Int.tmod_eq_emod_of_nonneg h0]; omega, by omega⟩
  obtain ⟨m, hm, hm17⟩ := hm
  have p1 := put_no L 1 0 (wrap64 (-d)) (by omega) (fun h => by have := h.1; rw [w64 (by omega) (by omega)] at this; omega) 100
  have p2 := put_no L 1 0 (wrap64 (16 + d)) (by omega) (fun h => by have := h.2.1; rw [w64 (by omega) (by omega)] at this; omega) 100
  have p3 := put_no L 1 (wrap64 (-d)) 8 (by omega) (fun h => by have := h.2.2.1; rw [w64 (by omega) (by omega)] at this; omega) 100
  have p4 := put_no L 1 256 8 (by omega) (fun h => by have := h.2.2.2.1; exact absurd this (by decide)) 100
  have p5 := put_no L 1 1 0 (by omega) (fun h => by have := h.2.2.2.1; exact absurd this (by decide)) 100
  have c1 := code_no L 1 0 0 (by omega) (fun h => by have := h.1; omega) 100
  have c2 := code_no L 1 0 (wrap64 (15 + d)) (by omega) (fun h => by have := h.2.1; rw [w64 (by omega) (by omega)] at this; omega) 100
  have c3 := code_no L 1 4 2 (by omega) (fun h => by have := h.2.2.2.1; exact absurd this (by decide)) 100
  have c4 := code_no L 1 (wrap64 (-d)) 2 (by omega) (fun h => by have := h.2.2.1; rw [w64 (by omega) (by omega)] at this; omega) 100
  have c5 := code_no L 1 0 (wrap64 (-d)) (by omega) (fun h => by have := h.1; rw [w64 (by omega) (by omega)] at this; omega) 100
  unfold portagelaw1_WriteForms.f
  rw [awake_true (by omega), Option.bind_some, if_pos rfl, hd, e1, Option.bind_some]
  dsimp only
  rw [p1, Option.bind_some]
  dsimp only
  rw [num1, Option.bind_some, p2, Option.bind_some]
  dsimp only
  rw [num1, Option.bind_some, p3, Option.bind_some]
  dsimp only
  rw [num1, Option.bind_some, p4, Option.bind_some]
  dsimp only
  rw [num1, Option.bind_some, p5, Option.bind_some]
  dsimp only
  rw [num1, Option.bind_some, c1, Option.bind_some]
  dsimp only
  rw [num1, Option.bind_some, c2, Option.bind_some]
  dsimp only
  rw [num1, Option.bind_some, c3, Option.bind_some]
  dsimp only
  rw [num1, Option.bind_some, c4, Option.bind_some]
  dsimp only
  rw [num1, Option.bind_some, c5, Option.bind_some]
  dsimp only
  rw [num1, Option.bind_some]
  exact loop w d L _ 60 ⟨hd1, hd2⟩ rfl hL m hm17 hm
end Go.Proofs.Ytbifignggnfodaa.Pure
