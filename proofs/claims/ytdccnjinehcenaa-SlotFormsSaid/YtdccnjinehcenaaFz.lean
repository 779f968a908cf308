/- A string's bytes as a slice of their own that is written into: its block ends behind a mark, so it is no row of the printed words; its own small laws. No program in sight. -/
import Derived.Test.YtdccnjinehcenaaOwn
import Derived.Laws.BytesArg
namespace Go.Proofs.YtdccnjinehcenaaW.Own.Fz
open Go Go.RowKit Go.Proofs.YtdccnjinehcenaaW.PrintWords Go.Proofs.YtdccnjinehcenaaW.PrintLast Go.Proofs.YtdccnjinehcenaaW.PrintMore
def R (_d : Kd Int) (e : Nat) (w : World) (base : Nat) (_ok : Nat → Prop) (v : Value) (xs : List Int) : Prop :=
  ∃ (g c : Nat) (cells : Array Value) (lo hi : Nat), v = .slice (some ⟨g, 0, none⟩) xs.length c ∧ base ≤ g ∧ xs.length ≤ c ∧ xs.length ≤ 9223372036854775807 ∧ w.heap[g]? = some (.cells cells e (lo, hi)) ∧ xs.length ≤ lo ∧ ∀ i, i < xs.length → cells[i]? = some (.int .u8 (xs.getD i 0))
section
variable {d : Kd Int} {e : Nat} {w w1 w' : World} {base : Nat} {ok : Nat → Prop} {v : Value} {xs : List Int}
theorem blk_in {g : Nat} {o : Obj} (h : w.heap[g]? = some o) : g < w.heap.size := (Array.getElem?_eq_some_iff.mp h).1
theorem R_below (h : R d e w base ok v xs) (hb : Below w.heap.size w w1) : R d e w1 base ok v xs := by
  obtain ⟨g, c, cells, lo, hi, h1, h2, h3, h4, h5, h6, h7⟩ := h
  exact ⟨g, c, cells, lo, hi, h1, h2, h3, h4, (hb.block g (blk_in h5)).trans h5, h6, h7⟩
theorem R_alloc (h : R d e w base ok v xs) (o : Obj) : R d e (w.alloc o) base ok v xs := R_below h (below_alloc (Below.refl _ _) o)
theorem R_drew (h : R d e w base ok v xs) : R d e w.drew base ok v xs := R_below h (below_drew (Below.refl _ _))
theorem R_drewN (h : R d e w base ok v xs) (m : Nat) : R d e (w.drewN m) base ok v xs := R_below h (pw_below_drewN (Below.refl _ _) m)
theorem R_at {m : Nat} (hq : w.drewN m = w') (h : R d e w base ok v xs) : R d e w' base ok v xs := by subst hq; exact R_drewN h m
theorem R_lower {base' : Nat} (h : R d e w base ok v xs) (hb : base' ≤ base) : R d e w base' ok v xs := by
  obtain ⟨g, c, cells, lo, hi, h1, h2, h3⟩ := h
  exact ⟨g, c, cells, lo, hi, h1, by omega, h3⟩
theorem R_slice (h : R d e w base ok v xs) : ∃ A c, v = .slice A xs.length c := by
  obtain ⟨g, c, cells, lo, hi, h1, _⟩ := h
  exact ⟨_, c, h1⟩
theorem R_cells {g n cap : Nat} (h : R d e w base ok (.slice (some ⟨g, 0, none⟩) n cap) xs) : n = xs.length ∧ ∃ (cells : Array Value) (lo hi : Nat), w.heap[g]? = some (.cells cells e (lo, hi)) ∧ xs.length ≤ lo ∧ ∀ i, i < xs.length → cells[i]? = some (.int .u8 (xs.getD i 0)) := by
  obtain ⟨g', c, cells, lo, hi, h1, h2, h3, h4, h5, h6, h7⟩ := h
  injection h1 with a1 a2 a3
  injection a1 with a1
  injection a1 with a1
  subst a1
  exact ⟨a2, cells, lo, hi, h5, h6, h7⟩
theorem cell_of {g i : Nat} {cells : Array Value} {t lo hi : Nat} {u : Value} (h : w.heap[g]? = some (.cells cells t (lo, hi))) (hu : cells[i]? = some u) : w.cell? ⟨g, i, none⟩ = some u := by
  simp [World.cell?, h, hu]
theorem frozen_of {g i : Nat} {cells : Array Value} {t lo hi : Nat} (h : w.heap[g]? = some (.cells cells t (lo, hi))) (hi' : i < lo) : w.frozen? ⟨g, i, none⟩ = false := by
  simp only [World.frozen?, h]
  simp
  omega
theorem R_reads' {A : Option Addr} {n c : Nat} (h : R d e w base ok (.slice A n c) xs) : n = xs.length ∧ n ≤ c ∧ (Kd.int .u8).C w A xs.length xs := by
  obtain ⟨g, c', cells, lo, hi, h1, h2, h3, h4, h5, h6, h7⟩ := h
  injection h1 with a1 a2 a3
  subst a1; subst a3
  refine ⟨a2, by omega, rfl, h4, fun hn => ⟨⟨g, 0, none⟩, rfl, fun j p hj => ⟨[.int .u8 p], rfl, rfl, fun i u hu => ?_⟩⟩⟩
  obtain ⟨hjl, hje⟩ := List.getElem?_eq_some_iff.mp hj
  have hc := h7 j hjl
  rw [List.getD_eq_getElem?_getD, hj] at hc
  have hz : (Kd.int .u8).sz = 1 := rfl
  match i, hu with
  | 0, hu =>
    simp at hu
    subst hu
    have ea : (⟨g, 0, none⟩ : Addr).add (j * (Kd.int .u8).sz + 0) = ⟨g, j, none⟩ := by rw [hz, Nat.mul_one, Nat.add_zero]; unfold Addr.add; split <;> simp_all
    rw [ea]
    exact cell_of h5 hc
  | i + 1, hu => simp at hu
theorem R_form (h : R d e w base ok v xs) (_hp : 0 < xs.length) : ∃ g cap, v = .slice (some ⟨g, 0, none⟩) xs.length cap ∧ base ≤ g ∧ g < w.heap.size ∧ ∃ cells : Array Value, ∃ fr : Nat × Nat, w.heap[g]? = some (.cells cells e fr) := by
  obtain ⟨g, c, cells, lo, hi, h1, h2, h3, h4, h5, _⟩ := h
  exact ⟨g, c, h1, h2, blk_in h5, cells, (lo, hi), h5⟩
theorem R_celln (_z : Int) {g n cap : Nat} (h : R d e w base ok (.slice (some ⟨g, 0, none⟩) n cap) xs) (i : Int) (h0 : 0 ≤ i) (hi : i < n) : w.cell? ⟨g, i.toNat, none⟩ = some (.int .u8 (rd xs i)) ∧ w.frozen? ⟨g, i.toNat, none⟩ = false := by
  obtain ⟨rfl, cells, lo, hi', h5, h6, h7⟩ := R_cells h
  exact ⟨cell_of h5 (h7 i.toNat (by omega)), frozen_of h5 (by omega)⟩
theorem R_putg {g n cap : Nat} (h : R d e w base ok (.slice (some ⟨g, 0, none⟩) n cap) xs) (i : Int) (x : Int) : R d e (w.setCell ⟨g, i.toNat, none⟩ (.int .u8 x)) base ok (.slice (some ⟨g, 0, none⟩) n cap) (xs.set i.toNat x) ∧ w.grownBy (w.setCell ⟨g, i.toNat, none⟩ (.int .u8 x)) (some g) := by
  refine ⟨?_, ?_⟩
  · obtain ⟨g', c, cells, lo, hi, h1, h2, h3, h4, h5, h6, h7⟩ := h
    injection h1 with a1 a2 a3
    injection a1 with a1
    injection a1 with a1
    subst a1; subst a3
    refine ⟨g, cap, cells.setIfInBounds i.toNat (.int .u8 x), lo, hi, by rw [List.length_set, a2], h2, by rw [List.length_set]; exact h3, by rw [List.length_set]; exact h4, ?_, by rw [List.length_set]; exact h6, fun j hj => ?_⟩
    · have hg := blk_in h5
      have he : w.heap[g] = .cells cells e (lo, hi) := by
        rw [Array.getElem?_eq_getElem hg] at h5
        injection h5
      simp [World.setCell, Array.getElem?_modify, h5]
    · rw [List.length_set] at hj
      have hc := h7 j hj
      rw [Array.getElem?_setIfInBounds]
      by_cases hij : i.toNat = j
      · subst hij
        have hcs : i.toNat < cells.size := (Array.getElem?_eq_some_iff.mp hc).1
        rw [if_pos rfl, if_pos hcs, List.getD_eq_getElem?_getD, List.getElem?_set_self hj]
        rfl
      · rw [if_neg hij, hc, List.getD_eq_getElem?_getD, List.getD_eq_getElem?_getD, List.getElem?_set_ne hij]
  · refine ⟨rfl, rfl, rfl, by simp [World.setCell], fun k hk hne => ?_⟩
    have hne : g ≠ k := fun e_ => hne (by rw [e_])
    simp [World.setCell, Array.getElem?_modify, hne]
theorem own_of_R (h : R d e w base ok v xs) : R d e w base ok v xs := h
theorem own_string {P : Program} {src dst t : TypeId} (hs : P.underlying src = some (.slice t)) (he : P.underlying t = some (.int .u8)) (hd : P.underlying dst = some .string) (h : R d e w base ok v xs) : (convert src dst v).run P w = .ok (.string (strOfNums xs)) w := by
  obtain ⟨g, c, cells, lo, hi, rfl, h2, h3, h4, h5, h6, h7⟩ := h
  exact run_convert_bytes_arg w src t hs he g 0 xs.length c xs rfl (fun i hi => by rw [Nat.zero_add]; exact cell_of h5 (h7 i hi)) dst hd
theorem R_typedF (h : R d e w base ok v xs) : ∀ k, v.ownBlock = some k → ∃ cells fr, w.heap[k]? = some (.cells cells e fr) := by
  obtain ⟨g, c, cells, lo, hi, rfl, h2, h3, h4, h5, h6, h7⟩ := h
  intro k hk
  have hk : some g = some k := hk
  injection hk with hk
  subst hk
  exact ⟨cells, (lo, hi), h5⟩
theorem R_over' {u : Value} {e' : Nat} (h : R d e w base ok v xs) (hty : ∀ k, u.ownBlock = some k → ∃ cells, w.heap[k]? = some (.cells cells e' (0, 0))) (ht : ∀ q, q ∈ e :: d.E → q ≠ e') (hg : w.grownBy w1 u.ownBlock) : R d e w1 base ok v xs := by
  obtain ⟨g, c, cells, lo, hi, h1, h2, h3, h4, h5, h6, h7⟩ := h
  refine ⟨g, c, cells, lo, hi, h1, h2, h3, h4, (hg.block g (blk_in h5) (fun he => ?_)).trans h5, h6, h7⟩
  obtain ⟨cells', hc'⟩ := hty g he.symm
  rw [h5] at hc'
  injection hc' with hc'
  injection hc' with _ hc'
  exact ht e (List.mem_cons_self ..) hc'
end
/-- A row stays while a string's bytes are written. -/
theorem over_F {α : Type} {d : Kd α} {e e' base : Nat} {W w1 : World} {ok : Nat → Prop} {u v : Value} {xs : List α} (h : d.R e W base ok u xs) (hty : ∀ k, v.ownBlock = some k → ∃ cells fr, W.heap[k]? = some (.cells cells e' fr)) (ht : ∀ q, q ∈ e :: d.E → q ≠ e') (hg : W.grownBy w1 v.ownBlock) : d.R e w1 base ok u xs := by
  refine Kd.R_mono (Kd.R_move (Kd.R_bound h) (fun k hk => hg.block k hk.2.2.1 (fun he => ?_))) (fun _ hk => hk.1)
  obtain ⟨_, _, _, q, hq, cells, hc⟩ := hk
  obtain ⟨cells', fr, hc'⟩ := hty k he.symm
  rw [hc] at hc'
  injection hc' with hc'
  injection hc' with _ hc'
  exact ht q hq hc'
theorem bytes_R (W : World) (e : TypeId) (s : ByteArray) (hs : s.size ≤ 9223372036854775807) (c : Nat) (hc : s.size ≤ c) : R (Kd.int .u8) e (Lib.bytesWorld W e s) W.heap.size (fun _ => True) (.slice (some ⟨W.heap.size, 0, none⟩) s.size c) (bytesOf s) := by
  have hl : (bytesOf s).length = s.size := bytesOf_length s
  have hz : s.data.toList.length = s.size := rfl
  refine ⟨W.heap.size, c, Lib.bytesCells W e s, _, _, by rw [hl], Nat.le_refl _, by omega, by omega, Lib.bytesWorld_at_new W e s, ?_, fun i hi => ?_⟩
  · rw [hl]
    simp only [Lib.bytesCells, Array.size_append, Array.size_map, Array.size_replicate]
    have : s.data.size = s.size := rfl
    omega
  · rw [hl] at hi
    unfold Lib.bytesCells bytesOf
    have hds : i < s.data.size := hi
    rw [Array.getElem?_append_left (by rw [Array.size_map]; exact hds), Array.getElem?_map, Array.getElem?_eq_getElem hds, List.getD_eq_getElem?_getD, List.getElem?_map, List.getElem?_eq_getElem (by omega)]
    rfl
section
variable {P : Program} {ops : Array Oper} {rest : List Oper} {o : Oper} {a : Act} {Q : Exit → Act → World → Prop}
theorem bytes_event {W : World} (hgd : o.guard = none) {N : Tmp} (_hd : o.dst = some N) {s : ByteArray} {e : TypeId} (hs : s.size ≤ 9223372036854775807)
    (hrun : (execOp a.eval o).run P W = .ok (.value (.slice (some ⟨W.heap.size, 0, none⟩) s.size (grownCap W s.size 0 e))) (Lib.bytesWorld W e s))
    (h : ∀ v w1, R (Kd.int .u8) e w1 W.heap.size (fun _ => True) v (bytesOf s) → Below W.heap.size W w1 → True → True → wpList P ops Q rest (a.put o.dst v) w1) : wpList P ops Q (o :: rest) a W :=
  Kd.event_run hgd hrun (h _ _ (bytes_R W e s hs _ (grownCap_ge W s.size 0 e)) (bytes_below (Below.refl _ _) (Nat.le_refl _) e s) trivial trivial)
end
end Go.Proofs.YtdccnjinehcenaaW.Own.Fz
