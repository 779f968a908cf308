/- Rows of bytes as numbers: what one bit more makes of them, and what is read; no program in sight. -/
import Derived.Test.YtbifignggnfodaaBits
namespace Go.Proofs.Ytbifignggnfodaa.BitsM
open Go Go.RowKit
def isB (l : List Int) : Prop := ∀ x ∈ l, 0 ≤ x ∧ x < 256
/-- A row of bytes as one number, the lowest byte first. -/
def num : List Int → Nat
  | [] => 0
  | x :: l => x.toNat + 256 * num l
theorem num_append : ∀ (a b : List Int), num (a ++ b) = num a + 256 ^ a.length * num b
  | [], b => by simp [num]
  | x :: a, b => by
    show x.toNat + 256 * num (a ++ b) = x.toNat + 256 * num a + 256 ^ (a.length + 1) * num b
    rw [num_append a b, Nat.pow_succ, Nat.mul_add, Nat.mul_comm (256 ^ a.length) 256, Nat.mul_assoc, Nat.add_assoc]
theorem isB_cons {x : Int} {l : List Int} (h : isB (x :: l)) : (0 ≤ x ∧ x < 256) ∧ isB l := ⟨h x (by simp), fun y hy => h y (by simp [hy])⟩
theorem num_lt : ∀ (l : List Int), isB l → num l < 256 ^ l.length
  | [], _ => by simp [num]
  | x :: l, h => by
    obtain ⟨hx, hl⟩ := isB_cons h
    have := num_lt l hl
    show x.toNat + 256 * num l < 256 ^ (l.length + 1)
    rw [Nat.pow_succ]
    omega
theorem byte_at : ∀ (l : List Int), isB l → ∀ (i : Nat) (hi : i < l.length), (l[i]).toNat = num l / 256 ^ i % 256
  | x :: l, h, 0, _ => by
    obtain ⟨hx, _⟩ := isB_cons h
    show x.toNat = (x.toNat + 256 * num l) / 1 % 256
    omega
  | x :: l, h, i + 1, hi => by
    obtain ⟨hx, hl⟩ := isB_cons h
    have ih := byte_at l hl i (by simpa using hi)
    show (l[i]'(by simpa using hi)).toNat = (x.toNat + 256 * num l) / 256 ^ (i + 1) % 256
    rw [ih, Nat.pow_succ, Nat.mul_comm (256 ^ i) 256, ← Nat.div_div_eq_div_mul, show (x.toNat + 256 * num l) / 256 = num l from by omega]
theorem uniq : ∀ (a b : List Int), isB a → isB b → a.length = b.length → num a = num b → a = b
  | [], [], _, _, _, _ => rfl
  | [], _ :: _, _, _, h, _ => by simp at h
  | _ :: _, [], _, _, h, _ => by simp at h
  | x :: a, y :: b, ha, hb, hl, hn => by
    obtain ⟨hx, ha⟩ := isB_cons ha
    obtain ⟨hy, hb⟩ := isB_cons hb
    have hn : x.toNat + 256 * num a = y.toNat + 256 * num b := hn
    have h1 : x = y := by omega
    have h2 : num a = num b := by omega
    rw [h1, uniq a b ha hb (by simpa using hl) h2]
theorem num_set : ∀ (l : List Int) (i : Nat) (y : Int) (hi : i < l.length), num (l.set i y) + (l[i]).toNat * 256 ^ i = num l + y.toNat * 256 ^ i
  | x :: l, 0, y, _ => by
    show y.toNat + 256 * num l + x.toNat * 1 = x.toNat + 256 * num l + y.toNat * 1
    omega
  | x :: l, i + 1, y, hi => by
    have ih := num_set l i y (by simpa using hi)
    show x.toNat + 256 * num (l.set i y) + (l[i]'(by simpa using hi)).toNat * 256 ^ (i + 1) = x.toNat + 256 * num l + y.toNat * 256 ^ (i + 1)
    rw [Nat.pow_succ, ← Nat.mul_assoc, ← Nat.mul_assoc]
    omega
theorem isB_set {l : List Int} (h : isB l) (i : Nat) {y : Int} (hy : 0 ≤ y ∧ y < 256) : isB (l.set i y) := by
  intro x hx
  rcases List.mem_or_eq_of_mem_set hx with h1 | h1
  · exact h x h1
  · subst h1; exact hy
theorem pow256 (k : Nat) : 256 ^ k = 2 ^ (8 * k) := by rw [Nat.pow_mul]
/-- A row of bytes that has n bits, as a number: N. -/
structure IsW (L : List Int) (n N : Nat) : Prop where
  b : isB L
  e : num L = N
  lt : N < 2 ^ n
  len : L.length = (n + 7) / 8
theorem IsW.nil : IsW [] 0 0 := ⟨by intro x hx; simp at hx, rfl, by decide, rfl⟩
theorem more_lt {N n b : Nat} (h : N < 2 ^ n) (hb : b < 2) : N + b * 2 ^ n < 2 ^ (n + 1) := by
  rw [Nat.pow_succ]
  generalize 2 ^ n = t at h ⊢
  have h2 : b * t ≤ 1 * t := Nat.mul_le_mul_right t (by omega)
  omega
theorem IsW.more {L : List Int} {n N : Nat} (h : IsW L n N) (q b : Nat) (hq : n = 8 * q) (hb : b < 2) : IsW ((L ++ [0]).set L.length (b : Int)) (n + 1) (N + b * 2 ^ n) := by
  have hl := h.len
  have hs : (L ++ [0]).set L.length (b : Int) = L ++ [(b : Int)] := by
    rw [List.set_append_right _ _ (Nat.le_refl _), Nat.sub_self, List.set_cons_zero]
  rw [hs]
  refine ⟨?_, ?_, more_lt h.lt hb, ?_⟩
  · intro x hx
    rcases List.mem_append.mp hx with h1 | h1
    · exact h.b x h1
    · rw [List.mem_singleton] at h1
      omega
  · rw [num_append, h.e, pow256]
    show N + 2 ^ (8 * L.length) * ((b : Int).toNat + 256 * 0) = N + b * 2 ^ n
    rw [show 8 * L.length = n from by omega, show (b : Int).toNat + 256 * 0 = b from by omega, Nat.mul_comm]
  · rw [List.length_append, List.length_singleton]
    omega
theorem IsW.last {L : List Int} {n N : Nat} (h : IsW L n N) (q j : Nat) (hn : n = 8 * q + j) (hj : 1 ≤ j ∧ j < 8) : ∃ hi : q < L.length, L.length = q + 1 ∧ (L[q]).toNat < 2 ^ j := by
  have hl := h.len
  refine ⟨by omega, by omega, ?_⟩
  rw [byte_at L h.b q (by omega), h.e, pow256]
  have h1 : N / 2 ^ (8 * q) < 2 ^ j := by
    have := h.lt
    rw [hn, Nat.pow_add] at this
    exact (Nat.div_lt_iff_lt_mul (Nat.pow_pos (by decide))).mpr (by rw [Nat.mul_comm]; exact this)
  exact Nat.lt_of_le_of_lt (Nat.mod_le _ _) h1
theorem IsW.into {L : List Int} {n N : Nat} (h : IsW L n N) (q j b : Nat) (hn : n = 8 * q + j) (hj : 1 ≤ j ∧ j < 8) (hb : b < 2) (hi : q < L.length) : IsW (L.set q (((L[q]).toNat + b * 2 ^ j : Nat) : Int)) (n + 1) (N + b * 2 ^ n) := by
  have hl := h.len
  obtain ⟨_, _, hx⟩ := h.last q j hn hj
  have hj7 : 2 ^ j ≤ 128 := by
    have : 2 ^ j ≤ 2 ^ 7 := Nat.pow_le_pow_right (by decide) (by omega)
    exact this
  have hb2 : b * 2 ^ j ≤ 1 * 2 ^ j := Nat.mul_le_mul_right _ (by omega)
  refine ⟨isB_set h.b _ ⟨by omega, by omega⟩, ?_, more_lt h.lt hb, ?_⟩
  · have := num_set L q (((L[q]).toNat + b * 2 ^ j : Nat) : Int) hi
    rw [Int.toNat_natCast, Nat.add_mul, h.e, Nat.mul_assoc, pow256, ← Nat.pow_add, show j + 8 * q = n from by omega] at this
    omega
  · rw [List.length_set]
    omega
theorem IsW.up {L : List Int} {n N : Nat} (h : IsW L n N) : IsW L (8 * L.length) N := by
  have hl := h.len
  refine ⟨h.b, h.e, Nat.lt_of_lt_of_le h.lt (Nat.pow_le_pow_right (by decide) (by omega)), by omega⟩
theorem mod_bit (M j : Nat) (hj : j < 8) : M % 256 / 2 ^ j % 2 = M / 2 ^ j % 2 := by
  have h : j = 0 ∨ j = 1 ∨ j = 2 ∨ j = 3 ∨ j = 4 ∨ j = 5 ∨ j = 6 ∨ j = 7 := by omega
  rcases h with h | h | h | h | h | h | h | h <;> subst h <;> simp only [Nat.reducePow] <;> omega
/-- A bit of a row of bytes. -/
theorem bit_at {L : List Int} (h : isB L) (p : Nat) (hp : p < 8 * L.length) : ∃ hi : p / 8 < L.length, (L[p / 8]).toNat / 2 ^ (p % 8) % 2 = num L / 2 ^ p % 2 := by
  refine ⟨by omega, ?_⟩
  rw [byte_at L h _ (by omega), mod_bit _ _ (by omega), pow256, Nat.div_div_eq_div_mul, ← Nat.pow_add, show 8 * (p / 8) + p % 8 = p from by omega]
theorem mod_more (N p i : Nat) : N / 2 ^ p % 2 ^ i + N / 2 ^ (p + i) % 2 * 2 ^ i = N / 2 ^ p % 2 ^ (i + 1) := by
  rw [Nat.pow_succ, Nat.mod_mul, Nat.pow_add, ← Nat.div_div_eq_div_mul, Nat.mul_comm (2 ^ i)]
/-- A code's bits, the highest one first. -/
def rv : Nat → Nat → Nat
  | 0, _ => 0
  | m + 1, V => V / 2 ^ m % 2 + 2 * rv m V
theorem rv_lt : ∀ (m V : Nat), rv m V < 2 ^ m
  | 0, _ => by simp [rv]
  | m + 1, V => by
    have := rv_lt m V
    show V / 2 ^ m % 2 + 2 * rv m V < 2 ^ (m + 1)
    rw [Nat.pow_succ]
    omega
end Go.Proofs.Ytbifignggnfodaa.BitsM
