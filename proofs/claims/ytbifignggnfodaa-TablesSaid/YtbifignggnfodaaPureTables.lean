import Derived.Test.YtbifignggnfodaaTabLTT
import Derived.Test.YtbifignggnfodaaTT9
import Derived.Test.YtbifignggnfodaaTT4
import Derived.Test.YtbifignggnfodaaTT3
import Derived.Test.YtbifignggnfodaaTT7
import Derived.Test.YtbifignggnfodaaTT6
namespace Go.Proofs.Ytbifignggnfodaa.Pure
set_option linter.unusedVariables false
set_option linter.unusedSimpArgs false
open Go Go.RowKit Go.Proofs.Ytbifignggnfodaa.TT Go.Proofs.YtbifignggnfodaaW.PrintWords Go.Proofs.YtbifignggnfodaaW.PrintLast Go.Proofs.YtbifignggnfodaaW.PrintMore
namespace TabT
theorem rLenOf_no {x : Int} {k : Nat} (h : x ≤ 256 ∨ 285 < x) : portageref1_LengthOf.f (k + 1) x = some (0, 0, 600) := by
  unfold portageref1_LengthOf.f
  by_cases h1 : x < 257
  · rw [if_pos h1]; rfl
  · rw [if_neg h1, decide_eq_true (p := x > 285) (by omega)]; rfl
theorem rLen_no {x : Int} {k : Nat} (h : x < 3 ∨ 258 < x) : portageref1_Length.f (k + 1) x = some (0, 0, 0, 600) := by
  unfold portageref1_Length.f
  by_cases h1 : x < 3
  · rw [if_pos h1]; rfl
  · rw [if_neg h1, decide_eq_true (p := x > 258) (by omega)]; rfl
theorem rDistOf_no {x : Int} {k : Nat} (h : x < 0 ∨ 29 < x) : portageref1_DistOf.f (k + 1) x = some (0, 0, 600) := by
  unfold portageref1_DistOf.f
  by_cases h1 : x < 0
  · rw [if_pos h1]; rfl
  · rw [if_neg h1, decide_eq_true (p := x > 29) (by omega)]; rfl
theorem rDist_no {x : Int} {k : Nat} (h : x < 1 ∨ 32768 < x) : portageref1_Dist.f (k + 1) x = some (0, 0, 0, 600) := by
  unfold portageref1_Dist.f
  by_cases h1 : x < 1
  · rw [if_pos h1]; rfl
  · rw [if_neg h1, decide_eq_true (p := x > 32768) (by omega)]; rfl
theorem rDistOf_at {K : Nat} (hK : 1 ≤ K) (t : Nat) (ht : t < 30) : portageref1_DistOf.f K (t : Int) = some (Ld t, Bd t, 0) := by
  have h : ∀ t : Nat, t < 30 → portageref1_DistOf.f 1 (t : Int) = some (Ld t, Bd t, 0) := by decide +kernel
  exact at_rounds (g := fun k => portageref1_DistOf.f k (t : Int)) (fun k => portageref1_DistOf.mono _ k) hK (h t ht)
theorem rLenOf_at {K : Nat} (hK : 1 ≤ K) (t : Nat) (ht : t < 28) : portageref1_LengthOf.f K ((257 + t : Nat) : Int) = some (Ll t, Bl t, 0) := by
  have h : ∀ t : Nat, t < 28 → portageref1_LengthOf.f 1 ((257 + t : Nat) : Int) = some (Ll t, Bl t, 0) := by decide +kernel
  exact at_rounds (g := fun k => portageref1_LengthOf.f k ((257 + t : Nat) : Int)) (fun k => portageref1_LengthOf.mono _ k) hK (h t ht)
theorem rLenOf_last {K : Nat} (hK : 1 ≤ K) : portageref1_LengthOf.f K 285 = some (258, 0, 0) :=
  at_rounds (g := fun k => portageref1_LengthOf.f k 285) (fun k => portageref1_LengthOf.mono _ k) hK (by decide +kernel)
theorem rDist_l (y : Int) (hy : y ≤ 32768) (t : Nat) (ht : t < 30) (h1 : Ld t ≤ y) (h2 : y < Ld (t + 1)) : ∀ (d s : Nat), s = t + d → s < 30 → ∀ K, d + 2 ≤ K → portageref1_Dist.l0 K y (s : Int) = some ((t : Int), Bd t, y - Ld t, 0) := by
  intro d
  induction d with
  | zero =>
    intro s hs hs30 K hK
    obtain ⟨m, rfl⟩ : ∃ m, K = m + 1 := ⟨K - 1, by omega⟩
    obtain rfl : s = t := by omega
    rw [portageref1_Dist.l0, rDistOf_at (by omega) s hs30, Option.bind_some, if_pos (by show y ≥ Ld s; omega)]
    dsimp only
    have := Ld_in s (by omega)
    rw [w64 (by omega) (by omega)]
  | succ d ih =>
    intro s hs hs30 K hK
    obtain ⟨m, rfl⟩ : ∃ m, K = m + 1 := ⟨K - 1, by omega⟩
    have hm := Ld_mono (t + 1) (by omega) s (by omega) (by omega)
    rw [portageref1_Dist.l0, rDistOf_at (by omega) s hs30, Option.bind_some, if_neg (by show ¬ y ≥ Ld s; omega)]
    have := ih (s - 1) (by omega) (by omega) m (by omega)
    rw [show wrap64 ((s : Int) - 1) = ((s - 1 : Nat) : Int) from by rw [w64 (by omega) (by omega)]; omega]
    exact this
theorem rLen_l (y : Int) (hy : y ≤ 257) (t : Nat) (ht : t < 28) (h1 : Ll t ≤ y) (h2 : y < Ll (t + 1)) : ∀ (d s : Nat), s = t + d → s < 28 → ∀ K, d + 2 ≤ K → portageref1_Length.l0 K y ((257 + s : Nat) : Int) = some (((257 + t : Nat) : Int), Bl t, y - Ll t, 0) := by
  intro d
  induction d with
  | zero =>
    intro s hs hs30 K hK
    obtain ⟨m, rfl⟩ : ∃ m, K = m + 1 := ⟨K - 1, by omega⟩
    obtain rfl : s = t := by omega
    rw [portageref1_Length.l0, rLenOf_at (by omega) s hs30, Option.bind_some, if_pos (by show y ≥ Ll s; omega)]
    dsimp only
    have := Ll_in s (by omega)
    rw [w64 (by omega) (by omega)]
  | succ d ih =>
    intro s hs hs30 K hK
    obtain ⟨m, rfl⟩ : ∃ m, K = m + 1 := ⟨K - 1, by omega⟩
    have hm := Ll_mono (t + 1) (by omega) s (by omega) (by omega)
    rw [portageref1_Length.l0, rLenOf_at (by omega) s hs30, Option.bind_some, if_neg (by show ¬ y ≥ Ll s; omega)]
    have := ih (s - 1) (by omega) (by omega) m (by omega)
    rw [show wrap64 (((257 + s : Nat) : Int) - 1) = ((257 + (s - 1) : Nat) : Int) from by rw [w64 (by omega) (by omega)]; omega]
    exact this
theorem dist_same (x : Int) {K : Nat} (hK : 60 ≤ K) : ∃ r, table_Dist.f K x = some r ∧ portageref1_Dist.f K x = some r := by
  obtain ⟨m, rfl⟩ : ∃ m, K = m + 1 := ⟨K - 1, by omega⟩
  by_cases h : x < 1 ∨ 32768 < x
  · exact ⟨_, dist_no h, rDist_no h⟩
  obtain ⟨t, ht, a, b, e⟩ := dist_at x (by omega) (by omega) (K := m + 1) (by omega)
  refine ⟨_, e, ?_⟩
  have := rDist_l x (by omega) t ht a b (29 - t) 29 (by omega) (by omega) (m - 1) (by omega)
  obtain ⟨p, rfl⟩ : ∃ p, m = p + 1 := ⟨m - 1, by omega⟩
  unfold portageref1_Dist.f
  rw [if_neg (by omega), decide_eq_false (p := x > 32768) (by omega), portageref1_Dist.j0, if_neg (by decide)]
  exact rDist_l x (by omega) t ht a b (29 - t) 29 (by omega) (by omega) (p + 1) (by omega)
theorem len_same (x : Int) {K : Nat} (hK : 60 ≤ K) : ∃ r, table_Length.f K x = some r ∧ portageref1_Length.f K x = some r := by
  obtain ⟨m, rfl⟩ : ∃ m, K = m + 1 := ⟨K - 1, by omega⟩
  by_cases h : x < 3 ∨ 258 < x
  · exact ⟨_, len_no h, rLen_no h⟩
  obtain ⟨p, rfl⟩ : ∃ p, m = p + 1 := ⟨m - 1, by omega⟩
  by_cases h258 : x = 258
  · subst h258
    refine ⟨_, len_last (by omega), ?_⟩
    unfold portageref1_Length.f
    rw [if_neg (by decide), decide_eq_false (p := (258 : Int) > 258) (by decide), portageref1_Length.j0, if_neg (by decide), portageref1_Length.l0, rLenOf_last (by omega), Option.bind_some, if_pos (by decide)]
    dsimp only
    rw [w64 (by decide) (by decide)]; rfl
  obtain ⟨t, ht, a, b, e⟩ := len_at x (by omega) (by omega) (K := p + 1 + 1) (by omega)
  refine ⟨_, e, ?_⟩
  unfold portageref1_Length.f
  rw [if_neg (by omega), decide_eq_false (p := x > 258) (by omega), portageref1_Length.j0, if_neg (by decide), portageref1_Length.l0, rLenOf_last (by omega), Option.bind_some, if_neg (by show ¬ x ≥ 258; omega)]
  rw [show wrap64 (285 - 1) = ((257 + 27 : Nat) : Int) from by decide +kernel]
  exact rLen_l x (by omega) t ht a b (27 - t) 27 (by omega) (by omega) p (by omega)
theorem distOf_same (x : Int) {K : Nat} (hK : 60 ≤ K) : ∃ r, table_DistOf.f K x = some r ∧ portageref1_DistOf.f K x = some r := by
  obtain ⟨m, rfl⟩ : ∃ m, K = m + 1 := ⟨K - 1, by omega⟩
  by_cases h : x < 0 ∨ 29 < x
  · exact ⟨_, distOf_no h, rDistOf_no h⟩
  obtain ⟨t, rfl, ht⟩ : ∃ t : Nat, x = (t : Int) ∧ t < 30 := ⟨x.toNat, by omega, by omega⟩
  exact ⟨_, distOf_at (by omega) t ht, rDistOf_at (by omega) t ht⟩
theorem lenOf_same (x : Int) {K : Nat} (hK : 60 ≤ K) : ∃ r, table_LengthOf.f K x = some r ∧ portageref1_LengthOf.f K x = some r := by
  obtain ⟨m, rfl⟩ : ∃ m, K = m + 1 := ⟨K - 1, by omega⟩
  by_cases h : x ≤ 256 ∨ 285 < x
  · exact ⟨_, lenOf_no h, rLenOf_no h⟩
  by_cases h285 : x = 285
  · subst h285
    exact ⟨_, lenOf_last (by omega), rLenOf_last (by omega)⟩
  obtain ⟨t, rfl, ht⟩ : ∃ t : Nat, x = ((257 + t : Nat) : Int) ∧ t < 28 := ⟨(x - 257).toNat, by omega, by omega⟩
  exact ⟨_, lenOf_at (by omega) t ht, rLenOf_at (by omega) t ht⟩
def FX : List Int := List.replicate 144 8 ++ (List.replicate 112 9 ++ (List.replicate 24 7 ++ List.replicate 8 8))
theorem fx_at {K : Nat} (hK : 700 ≤ K) : table_Fixed.f K = some FX := at_rounds (g := fun k => table_Fixed.f k) table_Fixed.mono hK (by decide +kernel)
theorem rfx_at {K : Nat} (hK : 700 ≤ K) : portageref1_Fixed.f K = some FX := at_rounds (g := fun k => portageref1_Fixed.f k) portageref1_Fixed.mono hK (by decide +kernel)
theorem same_at {K : Nat} (hK : 700 ≤ K) : portagelaw0_SameInts.f K FX FX = some true := at_rounds (g := fun k => portagelaw0_SameInts.f k FX FX) (fun k => portagelaw0_SameInts.mono _ _ k) hK (by decide +kernel)
theorem spoil_at {K : Nat} (hK : 700 ≤ K) : ∃ s, portagelaw0_SpoilInts.f K FX = some s := by
  have h : (portagelaw0_SpoilInts.f 700 FX).isSome = true := by decide +kernel
  obtain ⟨s, hs⟩ := Option.isSome_iff_exists.mp h
  exact ⟨s, at_rounds (g := fun k => portagelaw0_SpoilInts.f k FX) (fun k => portagelaw0_SpoilInts.mono _ k) hK hs⟩
end TabT
open TabT in
theorem Tables : portagelaw6_Tables.Pure := by
  intro x _
  refine ⟨800, ?_⟩
  obtain ⟨⟨a1, a2, a3, a4⟩, e1, e2⟩ := len_same x (K := 800) (by decide)
  obtain ⟨⟨b1, b2, b3⟩, e3, e4⟩ := lenOf_same x (K := 800) (by decide)
  obtain ⟨⟨c1, c2, c3, c4⟩, e5, e6⟩ := dist_same x (K := 800) (by decide)
  obtain ⟨⟨d1, d2, d3⟩, e7, e8⟩ := distOf_same x (K := 800) (by decide)
  obtain ⟨s, hs⟩ := spoil_at (K := 800) (by decide)
  have g : ∀ a b c : Int, (!(a == a) || (!(b == b) || (!(c == c)))) = false := by intro a b c; simp
  unfold portagelaw6_Tables.f
  rw [e1, Option.bind_some, e2, Option.bind_some, e3, Option.bind_some, e4, Option.bind_some, e5, Option.bind_some, e6, Option.bind_some, e7, Option.bind_some, e8, Option.bind_some]
  dsimp only
  rw [g, if_neg (by decide), num1, Option.bind_some, if_pos rfl, if_pos rfl, if_pos rfl, num1, Option.bind_some, if_pos rfl, g, if_neg (by decide), num1, Option.bind_some, if_pos rfl, if_pos rfl, if_pos rfl, num1, Option.bind_some, if_pos rfl, fx_at (by decide), Option.bind_some, rfx_at (by decide), Option.bind_some, same_at (by decide), Option.bind_some, if_pos rfl, hs, Option.bind_some, Option.bind_some, Option.bind_some, same_at (by decide), Option.bind_some, if_pos rfl, awake_true (by decide)]
  rfl
end Go.Proofs.Ytbifignggnfodaa.Pure
