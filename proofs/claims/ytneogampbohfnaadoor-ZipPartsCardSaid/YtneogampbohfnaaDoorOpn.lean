/- A value as it was handed in, told by its kind: whole numbers, bools, strings, slices of any of these; a struct's fields. No program in sight. -/
import Derived.Test.YtneogampbohfnaaDoorOwn
import Derived.Deep.Slices
import Derived.Deep.Strs
import Derived.ChangeSame
import Derived.ChangeArms
import Derived.SizedLaws
namespace Go.Proofs.YtneogampbohfnaaDoorW.Opn
open Go.ChangeShapes Go.WideShapes Go.RowKit Go.Proofs.YtneogampbohfnaaDoorW.PrintWords Go.Proofs.YtneogampbohfnaaDoorW.PrintLast Go.Proofs.YtneogampbohfnaaDoorW.PrintMore
theorem choose_list {α : Type} {Q : Nat → α → Prop} : ∀ n : Nat, (∀ i, i < n → ∃ t, Q i t) → ∃ xs : List α, xs.length = n ∧ ∀ (i : Nat) t, xs[i]? = some t → Q i t
  | 0, _ => ⟨[], rfl, fun i t h => by simp at h⟩
  | n + 1, h => by
    obtain ⟨xs, hl, hx⟩ := choose_list n (fun i hi => h i (by omega))
    obtain ⟨t, ht⟩ := h n (by omega)
    refine ⟨xs ++ [t], by simp [hl], fun i u hu => ?_⟩
    rcases Nat.lt_or_ge i xs.length with hi | hi
    · rw [List.getElem?_append_left hi] at hu; exact hx i u hu
    · rw [List.getElem?_append_right hi] at hu
      have : i - xs.length = 0 := by
        rcases Nat.lt_or_ge 0 (i - xs.length) with h0 | h0
        · rw [List.getElem?_eq_none (by simp; omega)] at hu; exact absurd hu (by simp)
        · omega
      rw [this] at hu
      simp at hu
      subst hu
      rw [show i = n from by omega]
      exact ht
theorem weights_all {H : Type} {P : Program} {e : TypeId} : ∀ {l : List (DataW H)} {d : DataW H}, d ∈ l → ∀ n ∈ d.weights P e, n ∈ DataW.weightsAll P e l
  | [], _, h, _, _ => by simp at h
  | x :: l, d, h, n, hn => by
    rw [DataW.weightsAll, List.mem_append]
    rcases List.mem_cons.mp h with h1 | h1
    · subst h1; exact .inl hn
    · exact .inr (weights_all h1 n hn)
section
variable {H : Type} (enc : TypeId × Value → H) (P : Program) (W : World) (base : Nat) (spare : Nat → Bool) (held : Bool)
/-- Whatever was handed in of type t is told by kind d, and is of sizes S. -/
def Opens {α : Type} (d : Kd α) (S : α → Prop) (t : TypeId) : Prop := ∀ (fuel : Nat) (cs : List Value) (x : DataW H × List MemPlace), DataW.trod enc P W base spare held fuel t cs = some x → (∀ n ∈ x.1.weights P t, n ≤ reachBytes) → ∃ a : α, d.K W a cs ∧ S a
end
section
variable {H : Type} {enc : TypeId × Value → H} {P : Program} {W : World} {base : Nat} {spare : Nat → Bool} {held : Bool}
theorem reach_eq : reachBytes = 140737488351232 := by decide
theorem opens_int {k : IntKind} {t : TypeId} (ht : P.underlying t = some (.int k)) : Opens enc P W base spare held (Kd.int k) (fun a => (Lit.int k a).wf = true) t := by
  intro fuel cs x h _
  obtain ⟨n, rfl, _, hw⟩ := DataW.trod_int ht h
  exact ⟨n, rfl, hw⟩
theorem opens_bool {t : TypeId} (ht : P.underlying t = some .bool) : Opens enc P W base spare held Kd.bool (fun _ => True) t := by
  intro fuel cs x h _
  obtain ⟨b, rfl, _⟩ := DataW.trod_bool ht h
  exact ⟨b, rfl, trivial⟩
theorem opens_str {t : TypeId} (ht : P.underlying t = some .string) : Opens enc P W base spare held Kd.string (fun a => a.size ≤ 140737488351232) t := by
  intro fuel cs x h hs
  obtain ⟨s, rfl, rfl, _⟩ := DataW.trod_string ht h
  refine ⟨s, rfl, ?_⟩
  have := hs s.data.toList.length (by simp [DataW.weights])
  rw [reach_eq] at this
  exact this
theorem opens_slice {α : Type} {d : Kd α} {S : α → Prop} {t e : TypeId} {B : Nat} (ht : P.underlying t = some (.slice e)) (hc : P.cellsOf e = d.sz) (hB : P.bytesOf e = B) (hin : Opens enc P W base spare held d S e) :
    Opens enc P W base spare held (Kd.slice e d) (fun xs => xs.length * B ≤ 140737488351232 ∧ ∀ y ∈ xs, S y) t := by
  intro fuel cs x h hs
  rcases Go.Deep.open_slice ht h with h0 | ⟨a, len, cap, m, n, D, Pl, hcs, hb, hl, hm, hmm, hx, hi⟩
  · exact ⟨[], ⟨none, 0, h0.1, Nat.le_refl _, Kd.C_nil _ _⟩, by simp, by simp⟩
  · have hlm : len ≤ m := by rw [hmm]; split <;> omega
    have hx1 : x.1 = .slice ((List.range len).map D) ((List.range (m - len)).map fun j => D (len + j)) := by rw [hx]
    have hw := hs
    rw [hx1] at hw
    have hQ : ∀ i, i < len → ∃ y : α, (∃ c, c.length = d.sz ∧ d.K W y c ∧ ∀ j u, c[j]? = some u → W.cell? (a.add (i * d.sz + j)) = some u) ∧ S y := by
      intro i hil
      obtain ⟨cs', hcell, htr⟩ := hi i (by omega)
      rw [hc] at hcell
      obtain ⟨_, hcl, hat⟩ := World.cells?_some hcell
      obtain ⟨y, hK, hS⟩ := hin n cs' _ htr (fun q hq => hw q (by
        simp only [DataW.weights, ht]
        exact List.mem_cons_of_mem _ (List.mem_append.mpr (.inl (weights_all (List.mem_map.mpr ⟨i, List.mem_range.mpr hil, rfl⟩) q hq)))))
      refine ⟨y, ⟨cs', d.K_len hK, hK, fun j u hu => ?_⟩, hS⟩
      have hj : j < cs'.length := (List.getElem?_eq_some_iff.mp hu).1
      rw [← Go.Deep.add_add]
      exact (hat j (by omega)).trans hu
    obtain ⟨xs, hxl, hxs⟩ := choose_list len hQ
    have hbytes : len * B ≤ 140737488351232 := by
      have := hw ((((List.range len).map D).length + ((List.range (m - len)).map fun j => D (len + j)).length) * P.bytesOf e) (by simp [DataW.weights, ht])
      rw [reach_eq, hB] at this
      simp only [List.length_map, List.length_range] at this
      exact Nat.le_trans (Nat.mul_le_mul_right _ (Nat.le_add_right _ _)) this
    have hmx : maxLen ≤ 9223372036854775807 := by decide
    refine ⟨xs, ⟨some a, cap, by rw [hcs, hxl], by omega, ⟨rfl, by omega, fun _ => ⟨a, rfl, fun j p hj => (hxs j p hj).1⟩⟩⟩, by rw [hxl]; exact hbytes, fun y hy => ?_⟩
    obtain ⟨i, hil, rfl⟩ := List.mem_iff_getElem.mp hy
    exact (hxs i _ (List.getElem?_eq_getElem hil)).2
/-- A struct's field. -/
theorem fld {t : TypeId} {fs : Array Field} {fuel : Nat} {cs : List Value} {x : DataW H × List MemPlace} (ht : P.underlying t = some (.struct fs)) (h : DataW.trod enc P W base spare held fuel t cs = some x) (hs : ∀ n ∈ x.1.weights P t, n ≤ reachBytes)
    (j : Nat) (f : Field) (hj : fs[j]? = some f) {α : Type} {d : Kd α} {S : α → Prop} (hin : Opens enc P W base spare held d S f.type) : ∃ a, d.K W a ((cs.drop f.offset).take (P.cellsOf f.type)) ∧ S a := by
  obtain ⟨ys, n, _, rfl, hl, hlen, hf⟩ := DataW.trod_struct ht h
  have hjl : j < ys.length := by
    have := (Array.getElem?_eq_some_iff.mp hj).1
    omega
  have h1 := hf j f hj
  rw [List.getElem?_eq_getElem hjl] at h1
  refine hin n _ _ h1 (fun q hq => hs q ?_)
  simp only [DataW.weights, ht]
  exact DataW.weights_mem_each (j := j) (t := f.type) (d := (ys[j]).1) (by rw [List.getElem?_map, Array.getElem?_toList, hj]; rfl) (by rw [List.getElem?_map, List.getElem?_eq_getElem hjl]; rfl) q hq
theorem struct_len {t : TypeId} {fs : Array Field} {fuel : Nat} {cs : List Value} {x : DataW H × List MemPlace} (ht : P.underlying t = some (.struct fs)) (h : DataW.trod enc P W base spare held fuel t cs = some x) : cs.length = P.cellsOf t := by
  obtain ⟨ys, n, _, rfl, hl, hlen, hf⟩ := DataW.trod_struct ht h
  exact hl
end
end Go.Proofs.YtneogampbohfnaaDoorW.Opn
