/- 'copy' within a row that is filled with one value ('slices.Repeat' of one element). No program in sight. -/
import Derived.Test.YtdccnjinehcenaaOwn
import Derived.Laws.IdiomCopy
namespace Go.Proofs.YtdccnjinehcenaaW.Own
open Go Go.RowKit Go.Proofs.YtdccnjinehcenaaW.PrintWords Go.Proofs.YtdccnjinehcenaaW.PrintLast Go.Proofs.YtdccnjinehcenaaW.PrintMore
section
variable {α : Type} {enc : α → Value} {h1 : ∀ x, (enc x).oneCell' = true} {P : Program} {e base : Nat} {ok : Nat → Prop}
/-- The first m of n are x, the others z. -/
def part (n m : Nat) (x z : α) : List α := List.replicate m x ++ List.replicate (n - m) z
theorem part_length {n m : Nat} {x z : α} (h : m ≤ n) : (part n m x z).length = n := by unfold part; rw [List.length_append, List.length_replicate, List.length_replicate]; omega
theorem part_set {n m : Nat} {x z : α} (h : m < n) : (part n m x z).set m x = part n (m + 1) x z := by
  unfold part
  rw [List.set_append_right _ _ (by rw [List.length_replicate]; omega), List.length_replicate, Nat.sub_self, show n - m = (n - (m + 1)) + 1 from by omega, List.replicate_succ, List.set_cons_zero, List.replicate_succ', List.append_assoc]
  rfl
theorem part_get {n m j : Nat} {x z : α} (h : j < m) (d : α) : (part n m x z).getD j d = x := by
  unfold part
  rw [List.getD_eq_getElem?_getD, List.getElem?_append_left (by rw [List.length_replicate]; exact h), List.getElem?_replicate, if_pos h]
  rfl
theorem part_all {n : Nat} {x z : α} : part n n x z = List.replicate n x := by unfold part; rw [Nat.sub_self, List.replicate_zero, List.append_nil]
theorem part_none {n : Nat} {x z : α} : part n 0 x z = List.replicate n z := by unfold part; rw [List.replicate_zero, List.nil_append, Nat.sub_zero]
theorem R_fill {g n co : Nat} {x z : α} (hg : base ≤ g) : ∀ (k m : Nat) (W : World), m + k ≤ n → (Kd.scalar enc h1).R e W base ok (.slice (some ⟨g, 0, none⟩) n co) (part n m x z) →
    (Kd.scalar enc h1).R e (W.setCells g m (List.replicate k (enc x))) base ok (.slice (some ⟨g, 0, none⟩) n co) (part n (m + k) x z) ∧ Below base W (W.setCells g m (List.replicate k (enc x)))
  | 0, m, W, _, h => ⟨h, Below.refl _ _⟩
  | k + 1, m, W, hk, h => by
    have hp := Kd.R_putn h (m : Int) x
    rw [Int.toNat_natCast, part_set (by omega)] at hp
    obtain ⟨h2, hb⟩ := R_fill hg k (m + 1) (W.setCell ⟨g, m, none⟩ (enc x)) (by omega) hp
    rw [show m + 1 + k = m + (k + 1) from by omega] at h2
    refine ⟨h2, ?_⟩
    have h3 : Below base W (W.setCell ⟨g, m, none⟩ (enc x)) := ⟨rfl, rfl, rfl, by simp [World.setCell], fun k hk => by simp [World.setCell, Array.getElem?_modify, show g ≠ k from by omega]⟩
    exact h3.trans hb
theorem at_cell {W : World} {g n co : Nat} {l : List α} (d : α) (h : (Kd.scalar enc h1).R e W base ok (.slice (some ⟨g, 0, none⟩) n co) l) (j : Nat) (hj : j < n) : W.cell? ⟨g, j, none⟩ = some (enc (l.getD j d)) ∧ W.frozen? ⟨g, j, none⟩ = false := by
  have := Kd.R_celln d h (j : Int) (by omega) (by omega)
  rw [Int.toNat_natCast] at this
  exact this
theorem add_at (g m j : Nat) : (⟨g, m, none⟩ : Addr).add j = ⟨g, m + j, none⟩ := by unfold Addr.add; split <;> simp_all
theorem slice_from (t el : TypeId) (kh : IntKind) (ht : P.underlying t = some (.slice el)) (hi : (P.info? el).map (·.size) = some 1) (g n c j : Nat) (hj : j ≤ n) (hc : j < c) :
    ∀ W : World, (Instr.slice t (.slice (some ⟨g, 0, none⟩) n c) (some (.int kh (j : Int))) none none).run P W = .ok (.slice (some ⟨g, j, none⟩) (n - j) (c - j)) W := by
  intro W
  have hel : P.elem t = el := by simp [Program.elem, ht]
  have hu : P.underlying t = some (.slice (P.elem t)) := by rw [hel]; exact ht
  obtain ⟨i, hi, hs⟩ := Option.map_eq_some_iff.mp hi
  rw [run_slice_l W t (some ⟨g, 0, none⟩) n c hu kh (j : Int) (by omega) (by omega), hel]
  have hne : ¬ c = j := by omega
  simp [sizeOf, typeInfo, hi, sliced, Result.andThen, hs, add_at, hne]
theorem slice_to (t el : TypeId) (kh : IntKind) (ht : P.underlying t = some (.slice el)) (hi : (P.info? el).map (·.size) = some 1) (g n c j : Nat) (hj : j ≤ c) :
    ∀ W : World, (Instr.slice t (.slice (some ⟨g, 0, none⟩) n c) none (some (.int kh (j : Int))) none).run P W = .ok (.slice (some ⟨g, 0, none⟩) j c) W := by
  intro W
  have hel : P.elem t = el := by simp [Program.elem, ht]
  have hu : P.underlying t = some (.slice (P.elem t)) := by rw [hel]; exact ht
  obtain ⟨i, hi, hs⟩ := Option.map_eq_some_iff.mp hi
  rw [run_slice_h W t (some ⟨g, 0, none⟩) n c hu kh (j : Int) (by omega) (by omega), hel]
  simp [sizeOf, typeInfo, hi, sliced, Result.andThen, hs, add_at]
theorem copy_run {W : World} {dT elem ty : TypeId} (hu : P.underlying dT = some (.slice elem)) (hs : (P.info? elem).map (·.size) = some 1) {g n m co c2 c3 : Nat} {x z : α} (h : (Kd.scalar enc h1).R e W base ok (.slice (some ⟨g, 0, none⟩) n co) (part n m x z)) (hmn : m ≤ n) :
    (Builtin.copy_ #[dT, dT] ty #[.slice (some ⟨g, m, none⟩) (n - m) c2, .slice (some ⟨g, 0, none⟩) m c3]).run P W = .ok (goInt ((min m (n - m) : Nat) : Int)) (W.setCells g m (List.replicate (min m (n - m)) (enc x))) := by
  have hl : (List.replicate (min m (n - m)) (enc x)).length = min m (n - m) := List.length_replicate
  have := run_copy_cells (P := P) W dT dT ty elem g m (n - m) c2 ⟨g, 0, none⟩ m c3 (List.replicate (min m (n - m)) (enc x)) hu hs hl (fun j v hv => by
      obtain ⟨hj, e1⟩ := List.getElem?_eq_some_iff.mp hv
      rw [hl] at hj
      rw [List.getElem_replicate] at e1
      subst e1
      rw [add_at, Nat.zero_add, (at_cell z h j (by omega)).1, part_get (by omega)]) (fun j hj => by
      rw [hl] at hj
      rw [(at_cell z h (m + j) (by omega)).1]
      rfl) (fun j hj => by
      rw [hl] at hj
      exact (at_cell z h (m + j) (by omega)).2) (fun v hv => by
      rw [List.eq_of_mem_replicate hv]
      exact h1 x)
  rw [hl] at this
  exact this
theorem copy_first {W : World} {dT elem ty : TypeId} (hu : P.underlying dT = some (.slice elem)) (hs : (P.info? elem).map (·.size) = some 1) {g n co c3 : Nat} {a : Addr} {x z : α} (h : (Kd.scalar enc h1).R e W base ok (.slice (some ⟨g, 0, none⟩) n co) (part n 0 x z)) (hn : 1 ≤ n) (ha : W.cell? a = some (enc x)) :
    (Builtin.copy_ #[dT, dT] ty #[.slice (some ⟨g, 0, none⟩) n co, .slice (some a) 1 c3]).run P W = .ok (goInt 1) (W.setCells g 0 (List.replicate 1 (enc x))) := by
  have hz : a.add 0 = a := by cases a; unfold Addr.add; split <;> simp_all
  exact run_copy_cells (P := P) W dT dT ty elem g 0 n co a 1 c3 [enc x] hu hs (by show 1 = min 1 n; omega) (fun j v hv => by
      match j, hv with
      | 0, hv =>
        simp at hv
        subst hv
        rw [hz]; exact ha
      | j + 1, hv => simp at hv) (fun j hj => by
      have hj : j < 1 := hj
      rw [(at_cell z h (0 + j) (by omega)).1]
      rfl) (fun j hj => by
      have hj : j < 1 := hj
      exact (at_cell z h (0 + j) (by omega)).2) (fun v hv => by
      rw [List.mem_singleton.mp hv]
      exact h1 x)
end
end Go.Proofs.YtdccnjinehcenaaW.Own
