/- Chapter 6's laws: what they share. -/
import Derived.Test.YtbifignggnfodaaT4
import Derived.Test.YtbifignggnfodaaT1
import Derived.Test.YtbifignggnfodaaT2
namespace Go.Proofs.Ytbifignggnfodaa.T
set_option linter.unusedVariables false
set_option linter.unusedSimpArgs false
open Go Go.RowKit Go.Proofs.YtbifignggnfodaaW.PrintWords Go.Proofs.YtbifignggnfodaaW.PrintLast Go.Proofs.YtbifignggnfodaaW.PrintMore
theorem awake_true {k : Nat} (hk : 60 ≤ k) : portagelaw6_awake.f k = some true := at_rounds (g := fun k => portagelaw6_awake.f k) portagelaw6_awake.mono hk (by decide +kernel)
theorem num1 (n : Int) : portagelaw0_Num.f n = some n := rfl
theorem w64 {n : Int} (h : -9223372036854775808 ≤ n) (h' : n < 9223372036854775808) : wrap64 n = n := by unfold wrap64; omega
theorem u64_tmod (x : Int) (m : Nat) (hm : 0 < m) : ∃ i : Nat, i < m ∧ Int.tmod (IntKind.u64.wrap x) (m : Int) = (i : Int) := by
  have h0 : 0 ≤ IntKind.u64.wrap x := by rw [IntKind.wrap_u64]; omega
  rw [Int.tmod_eq_emod_of_nonneg h0]
  have h1 := Int.emod_nonneg (IntKind.u64.wrap x) (show (m : Int) ≠ 0 by omega)
  have h2 := Int.emod_lt_of_pos (IntKind.u64.wrap x) (show (0 : Int) < (m : Int) by omega)
  exact ⟨((IntKind.u64.wrap x) % (m : Int)).toNat, by omega, by omega⟩

theorem lenOf_no {x : Int} {k : Nat} (h : x ≤ 256 ∨ 285 < x) : table_LengthOf.f (k + 1) x = some (0, 0, 600) := by
  unfold table_LengthOf.f
  by_cases h1 : x ≤ 256
  · rw [if_pos h1]; rfl
  · rw [if_neg h1, decide_eq_true (p := x > 285) (by omega)]; rfl
theorem len_no {x : Int} {k : Nat} (h : x < 3 ∨ 258 < x) : table_Length.f (k + 1) x = some (0, 0, 0, 600) := by
  unfold table_Length.f
  by_cases h1 : x < 3
  · rw [if_pos h1]; rfl
  · rw [if_neg h1, decide_eq_true (p := x > 258) (by omega)]; rfl
theorem distOf_no {x : Int} {k : Nat} (h : x < 0 ∨ 29 < x) : table_DistOf.f (k + 1) x = some (0, 0, 600) := by
  unfold table_DistOf.f
  by_cases h1 : x < 0
  · rw [if_pos h1]; rfl
  · rw [if_neg h1, decide_eq_true (p := x ≥ 30) (by omega)]; rfl
theorem dist_no {x : Int} {k : Nat} (h : x < 1 ∨ 32768 < x) : table_Dist.f k x = some (0, 0, 0, 600) := by
  unfold table_Dist.f
  by_cases h1 : x < 1
  · rw [if_pos h1]
  · rw [if_neg h1, if_pos (by omega)]

def Ld (t : Nat) : Int := if t < 4 then ((1 + t : Nat) : Int) else ((1 + (2 + t % 2) * 2 ^ (t / 2 - 1) : Nat) : Int)
def Bd (t : Nat) : Int := if t < 4 then 0 else ((t / 2 - 1 : Nat) : Int)
theorem Ld_mono : ∀ a, a < 31 → ∀ b, b < 31 → a ≤ b → Ld a ≤ Ld b := by decide +kernel
theorem Ld_in : ∀ a, a < 31 → 1 ≤ Ld a ∧ Ld a ≤ 32769 := by decide +kernel
theorem distOf_at {K : Nat} (hK : 1 ≤ K) (t : Nat) (ht : t < 30) : table_DistOf.f K (t : Int) = some (Ld t, Bd t, 0) := by
  have h : ∀ t : Nat, t < 30 → table_DistOf.f 1 (t : Int) = some (Ld t, Bd t, 0) := by decide +kernel
  exact at_rounds (g := fun k => table_DistOf.f k (t : Int)) (fun k => table_DistOf.mono _ k) hK (h t ht)
theorem steps (y : Int) : ∀ n, n ≤ 30 → 1 ≤ y → y < Ld n → ∃ t, t < n ∧ Ld t ≤ y ∧ y < Ld (t + 1) := by
  intro n
  induction n with
  | zero =>
    intro _ h1 h2
    have : Ld 0 = 1 := rfl
    omega
  | succ n ih =>
    intro hn h1 h2
    by_cases h : y < Ld n
    · obtain ⟨t, a, b⟩ := ih (by omega) h1 h
      exact ⟨t, by omega, b⟩
    · exact ⟨n, by omega, by omega, h2⟩
theorem last_at (y : Int) (hy : y ≤ 32768) (t : Nat) (ht : t < 30) (h1 : Ld t ≤ y) (h2 : y < Ld (t + 1)) : ∀ (d s : Nat), s = t + d → s < 30 → ∀ K, d + 2 ≤ K → table_last_F58.l0 K y 0 (s : Int) = some ((t : Int), Bd t, y - Ld t) := by
  intro d
  induction d with
  | zero =>
    intro s hs hs30 K hK
    obtain ⟨m, rfl⟩ : ∃ m, K = m + 1 := ⟨K - 1, by omega⟩
    obtain rfl : s = t := by omega
    rw [table_last_F58.l0]
    by_cases h0 : s = 0
    · subst h0
      rw [if_neg (by decide)]
      have e0 : Ld 0 = 1 := rfl
      have e1 : Ld (0 + 1) = 2 := rfl
      have : y = 1 := by omega
      subst this; rfl
    · rw [if_pos (by omega), distOf_at (by omega) s hs30, Option.bind_some, if_pos h1]
      dsimp only
      have := Ld_in s (by omega)
      rw [w64 (by omega) (by omega)]
  | succ d ih =>
    intro s hs hs30 K hK
    obtain ⟨m, rfl⟩ : ∃ m, K = m + 1 := ⟨K - 1, by omega⟩
    have hm := Ld_mono (t + 1) (by omega) s (by omega) (by omega)
    rw [table_last_F58.l0, if_pos (by omega), distOf_at (by omega) s hs30, Option.bind_some, if_neg (by show ¬ Ld s ≤ y; omega)]
    have := ih (s - 1) (by omega) (by omega) m (by omega)
    rw [show wrap64 ((s : Int) - 1) = ((s - 1 : Nat) : Int) from by rw [w64 (by omega) (by omega)]; omega]
    exact this
theorem dist_at (y : Int) (h1 : 1 ≤ y) (h2 : y ≤ 32768) {K : Nat} (hK : 40 ≤ K) : ∃ t : Nat, t < 30 ∧ Ld t ≤ y ∧ y < Ld (t + 1) ∧ table_Dist.f K y = some ((t : Int), Bd t, y - Ld t, 0) := by
  have h30 : Ld 30 = 32769 := by decide +kernel
  obtain ⟨t, ht, a, b⟩ := steps y 30 (by omega) h1 (by omega)
  refine ⟨t, ht, a, b, ?_⟩
  unfold table_Dist.f table_last_F58.f
  rw [if_neg (by omega), if_neg (by omega)]
  have := last_at y h2 t ht a b (29 - t) 29 (by omega) (by omega) K (by omega)
  rw [show ((29 : Nat) : Int) = 29 from rfl] at this
  rw [this]; rfl
def Ll (j : Nat) : Int := if j < 8 then ((3 + j : Nat) : Int) else ((3 + (4 + j % 4) * 2 ^ (j / 4 - 1) : Nat) : Int)
def Bl (j : Nat) : Int := if j < 8 then 0 else ((j / 4 - 1 : Nat) : Int)
theorem Ll_mono : ∀ a, a < 29 → ∀ b, b < 29 → a ≤ b → Ll a ≤ Ll b := by decide +kernel
theorem Ll_in : ∀ a, a < 29 → 3 ≤ Ll a ∧ Ll a ≤ 259 := by decide +kernel
theorem lenOf_at {K : Nat} (hK : 1 ≤ K) (t : Nat) (ht : t < 28) : table_LengthOf.f K ((257 + t : Nat) : Int) = some (Ll t, Bl t, 0) := by
  have h : ∀ t : Nat, t < 28 → table_LengthOf.f 1 ((257 + t : Nat) : Int) = some (Ll t, Bl t, 0) := by decide +kernel
  exact at_rounds (g := fun k => table_LengthOf.f k ((257 + t : Nat) : Int)) (fun k => table_LengthOf.mono _ k) hK (h t ht)
theorem lenOf_last {K : Nat} (hK : 1 ≤ K) : table_LengthOf.f K 285 = some (258, 0, 0) :=
  at_rounds (g := fun k => table_LengthOf.f k 285) (fun k => table_LengthOf.mono _ k) hK (by decide +kernel)
theorem stepsL (y : Int) : ∀ n, n ≤ 28 → 3 ≤ y → y < Ll n → ∃ t, t < n ∧ Ll t ≤ y ∧ y < Ll (t + 1) := by
  intro n
  induction n with
  | zero =>
    intro _ h1 h2
    have : Ll 0 = 3 := rfl
    omega
  | succ n ih =>
    intro hn h1 h2
    by_cases h : y < Ll n
    · obtain ⟨t, a, b⟩ := ih (by omega) h1 h
      exact ⟨t, by omega, b⟩
    · exact ⟨n, by omega, by omega, h2⟩
theorem lastL_at (y : Int) (hy : y ≤ 257) (t : Nat) (ht : t < 28) (h1 : Ll t ≤ y) (h2 : y < Ll (t + 1)) : ∀ (d s : Nat), s = t + d → s < 28 → ∀ K, d + 2 ≤ K → table_last_F54.l0 K y 257 ((257 + s : Nat) : Int) = some (((257 + t : Nat) : Int), Bl t, y - Ll t) := by
  intro d
  induction d with
  | zero =>
    intro s hs hs30 K hK
    obtain ⟨m, rfl⟩ : ∃ m, K = m + 1 := ⟨K - 1, by omega⟩
    obtain rfl : s = t := by omega
    rw [table_last_F54.l0]
    by_cases h0 : s = 0
    · subst h0
      rw [if_neg (by decide)]
      have e0 : Ll 0 = 3 := rfl
      have e1 : Ll (0 + 1) = 4 := rfl
      have : y = 3 := by omega
      subst this; rfl
    · rw [if_pos (by omega), lenOf_at (by omega) s hs30, Option.bind_some, if_pos h1]
      dsimp only
      have := Ll_in s (by omega)
      rw [w64 (by omega) (by omega)]
  | succ d ih =>
    intro s hs hs30 K hK
    obtain ⟨m, rfl⟩ : ∃ m, K = m + 1 := ⟨K - 1, by omega⟩
    have hm := Ll_mono (t + 1) (by omega) s (by omega) (by omega)
    rw [table_last_F54.l0, if_pos (by omega), lenOf_at (by omega) s hs30, Option.bind_some, if_neg (by show ¬ Ll s ≤ y; omega)]
    have := ih (s - 1) (by omega) (by omega) m (by omega)
    rw [show wrap64 (((257 + s : Nat) : Int) - 1) = ((257 + (s - 1) : Nat) : Int) from by rw [w64 (by omega) (by omega)]; omega]
    exact this
theorem len_at (y : Int) (h1 : 3 ≤ y) (h2 : y ≤ 257) {K : Nat} (hK : 40 ≤ K) : ∃ t : Nat, t < 28 ∧ Ll t ≤ y ∧ y < Ll (t + 1) ∧ table_Length.f K y = some (((257 + t : Nat) : Int), Bl t, y - Ll t, 0) := by
  have h30 : Ll 28 = 259 := by decide +kernel
  obtain ⟨t, ht, a, b⟩ := stepsL y 28 (by omega) h1 (by omega)
  refine ⟨t, ht, a, b, ?_⟩
  obtain ⟨m, rfl⟩ : ∃ m, K = m + 1 := ⟨K - 1, by omega⟩
  unfold table_Length.f
  rw [if_neg (by omega), decide_eq_false (p := y > 258) (by omega), table_Length.j0, if_neg (by decide), if_neg (by omega), table_last_F54.f]
  have := lastL_at y h2 t ht a b (27 - t) 27 (by omega) (by omega) m (by omega)
  rw [show ((257 + 27 : Nat) : Int) = 284 from rfl] at this
  rw [this]; rfl
theorem len_last {K : Nat} (hK : 2 ≤ K) : table_Length.f K 258 = some (285, 0, 0, 0) :=
  at_rounds (g := fun k => table_Length.f k 258) (fun k => table_Length.mono _ k) hK (by decide +kernel)
theorem shl_Bd : ∀ t, t < 30 → shl .i64 1 (Bd t) = Ld (t + 1) - Ld t ∧ 0 ≤ Bd t ∧ Bd t ≤ 13 := by decide +kernel
theorem shl_Bl : ∀ t, t < 28 → shl .i64 1 (Bl t) = Ll (t + 1) - Ll t ∧ 0 ≤ Bl t ∧ Bl t ≤ 5 := by decide +kernel
end Go.Proofs.Ytbifignggnfodaa.T
