/- What the walk of limit's deep leans on. -/
import Derived.Test.YtbifignggnfodaaHeapD
import Derived.Test.YtbifignggnfodaaCC1
import Derived.Deep.RegionHeld
namespace Go.Proofs.Ytbifignggnfodaa.HeapA
open Go.RowKit Go.Proofs.YtbifignggnfodaaW.PrintWords Go.Proofs.YtbifignggnfodaaW.PrintLast Go.Proofs.YtbifignggnfodaaW.PrintMore Go.Proofs.Ytbifignggnfodaa.HeapM Go.Proofs.Ytbifignggnfodaa.CC
set_option linter.unusedVariables false
set_option linter.unusedSimpArgs false
theorem info3 : (Try.prog.info? 3).map (fun i => (i.zero, i.size, i.bytes)) = some (some (.int .i64 0), 1, 8) := by kernel_rfl
/-- The row of depths. -/
def OutAt (W : World) (base ob cap : Nat) (L : Nat) (out : List Int) : Prop := out.length = L ∧ W.ownsRow base 3 1 (.slice (some ⟨ob, 0, none⟩) L cap) L (nums .i64 out)
theorem Trees.below {W W1 : World} {base ob : Nat} {v : Value} {bs : List Nat} {ts : List T} (h : Trees W base ob v bs ts) (hb : Below W.heap.size W W1) : Trees W1 base ob v bs ts :=
  ⟨pw_own_below h.row hb, h.len, fun i hi => (h.at_ i hi).move (hb.block _ (by obtain ⟨_, sv, h1, _⟩ := h.at_ i hi; exact blk_lt h1)) fun k cs hk _ => hb.block k (blk_lt hk)⟩
theorem TreeAt.below {W W1 : World} {base ob b : Nat} {t : T} (h : TreeAt W base ob b t) (hb : Below W.heap.size W W1) : TreeAt W1 base ob b t :=
  h.move (hb.block _ (by obtain ⟨_, sv, h1, _⟩ := h; exact blk_lt h1)) fun k cs hk _ => hb.block k (blk_lt hk)
theorem HeapAt.below {W W1 : World} {base ob hb : Nat} {bs : List Nat} {ts : List T} (h : HeapAt W base ob hb bs ts) (hbl : Below W.heap.size W W1) : HeapAt W1 base ob hb bs ts := by
  obtain ⟨⟨v, hv, ht⟩, hge⟩ := h
  exact ⟨⟨v, (hbl.block hb (blk_lt hv)).trans hv, ht.below hbl⟩, hge⟩
theorem nodup_le (L : Nat) (xs : List Int) (h1 : xs.Nodup) (h2 : ∀ s ∈ xs, 0 ≤ s ∧ s < L) : xs.length ≤ L := by
  have := List.Nodup.length_le_of_subset h1 (l₂ := (List.range L).map (fun n : Nat => (n : Int))) (fun s hs => by
    have := h2 s hs
    exact List.mem_map.2 ⟨s.toNat, List.mem_range.2 (by omega), by omega⟩)
  simpa using this
theorem _root_.Go.Proofs.Ytbifignggnfodaa.HeapM.G.split_le {L N : Nat} {U : List Int} {S : Int} {a b : T} {ts : List T} {made : Int} {out : List Int} (g : G L N U S (a :: b :: ts) made out) (hu : U.Nodup) (hr : ∀ s ∈ U, 0 ≤ s ∧ s < L) : a.s.length + b.s.length ≤ L := by
  obtain ⟨h1, h2, _⟩ := g.split hu hr
  rw [g.len] at h2
  have := nodup_le L (a.s ++ b.s) h1 h2
  rw [List.length_append] at this
  exact this
theorem kept_own {w w' : World} {base n : Nat} {v : Value} {xs : List Value} (h : Kept w w' (Ty w)) (ho : w.ownsRow base 3 1 v n xs) : w'.ownsRow base 3 1 v n xs :=
  own_move ho fun k hk => by
    obtain ⟨cs, hc⟩ := own_typed ho k hk
    refine h.2 k (blk_lt hc) ?_
    rintro ⟨c, h1 | h1⟩ <;> (rw [hc] at h1; cases h1)
theorem kept_tree {w w' : World} {base ob b : Nat} {t : T} (h : Kept w w' (Ty w)) (ht : TreeAt w base ob b t) : TreeAt w' base ob b t :=
  ht.move (by
    obtain ⟨_, sv, h1, _⟩ := ht
    refine h.2 b (blk_lt h1) ?_
    rintro ⟨c, h2 | h2⟩ <;> (rw [h1] at h2; cases h2)) fun k cs hk _ => by
    refine h.2 k (blk_lt hk) ?_
    rintro ⟨c, h2 | h2⟩ <;> (rw [hk] at h2; cases h2)
/-- What deep holds: the row of depths at one block, the heap's variable at the next one. -/
structure St (w W : World) (L : Nat) (out : List Int) (bs : List Nat) (ts : List T) : Prop where
  below : Below w.heap.size w W
  heap : HeapAt W w.heap.size w.heap.size (w.heap.size + 1) bs ts
  len : out.length = L
  row : W.ownsRow w.heap.size 3 1 (.slice (some ⟨w.heap.size, 0, none⟩) L L) L (nums .i64 out)
theorem St.lt {w W : World} {L : Nat} {out : List Int} {bs : List Nat} {ts : List T} (h : St w W L out bs ts) : w.heap.size + 1 < W.heap.size := by
  obtain ⟨⟨v, hv, _⟩, _⟩ := h.heap
  exact blk_lt hv
theorem drop_rd (l : List Int) (i : Nat) (h : i < l.length) : l.drop i = rd l (i : Int) :: l.drop (i + 1) := by
  rw [List.drop_eq_getElem_cons h]
  unfold rd
  rw [Int.toNat_natCast, List.getD_eq_getElem?_getD, List.getElem?_eq_getElem h]
  rfl
theorem rd_in (l : List Int) (i : Nat) (h : i < l.length) : rd l (i : Int) ∈ l := by
  unfold rd
  rw [Int.toNat_natCast, List.getD_eq_getElem?_getD, List.getElem?_eq_getElem h]
  exact List.getElem_mem _
theorem St.kept {w wr w' : World} {L : Nat} {out : List Int} {bs bs' : List Nat} {ts ts' : List T} (h : St w wr L out bs ts) (hh : HeapAt w' w.heap.size w.heap.size (w.heap.size + 1) bs' ts') (hk : Kept wr w' (Ty wr)) (hb : Below w.heap.size wr w') : St w w' L out bs' ts' :=
  ⟨h.below.trans hb, hh, h.len, kept_own hk h.row⟩
theorem wsum_le (B : Int) (hB : 0 ≤ B) : ∀ (i : Nat) (cs : List Int), (∀ x ∈ cs, x ≤ B) → wsum (HeapM.start i cs) ≤ cs.length * B
  | _, [], _ => by simp [HeapM.start, wsum]
  | i, c :: cs, h => by
    have ih := wsum_le B hB (i + 1) cs fun x hx => h x (List.mem_cons_of_mem _ hx)
    have hc := h c (List.mem_cons_self ..)
    rw [HeapM.start, List.length_cons, Int.natCast_add, Int.add_mul]
    split
    · rw [wsum]
      show c + wsum (HeapM.start (i + 1) cs) ≤ _
      omega
    · omega
theorem hta (b : Nat) (W : World) : (Instr.typeAssert (.iface 118 (.pointer (some ⟨b, 0, none⟩))) 20 118 false).run Try.prog W = .ok (.pointer (some ⟨b, 0, none⟩)) W := by first | kernel_rfl | rfl
theorem wsum_nonneg : ∀ (ts : List T), (∀ t ∈ ts, 0 < t.w) → 0 ≤ wsum ts
  | [], _ => by simp [wsum]
  | t :: ts, h => by
    have ih := wsum_nonneg ts fun x hx => h x (List.mem_cons_of_mem _ hx)
    have h1 := h t (List.mem_cons_self ..)
    rw [wsum]
    omega
theorem St.round {w wr w3 w4 w6 : World} {L : Nat} {out : List Int} {bs bs4 : List Nat} {us vs : List T} (h : St w wr L out bs us) (k1 : Kept wr w3 (Ty wr)) (b1 : Below w.heap.size wr w3) (k2 : Kept w3 w4 (Ty w3)) (b2 : Below w.heap.size w3 w4) (hh : HeapAt w4 w.heap.size w.heap.size (w.heap.size + 1) bs4 vs) (hb : Below w4.heap.size w4 w6) : St w w6 L out bs4 vs :=
  ⟨below_then ((h.below.trans b1).trans b2) (((h.below.trans b1).trans b2).size) hb, hh.below hb, h.len, pw_own_below (kept_own k2 (kept_own k1 h.row)) hb⟩
/-- A tree whose symbols' row is told. -/
structure Both (W : World) (base ob g : Nat) (A : Option Addr) (d : Nat) (t : T) : Prop where
  ge : base ≤ g
  cells : W.heap[g]? = some (.cells #[.int .i64 t.w, .int .i64 t.m, .slice A t.s.length d] 120 (0, 0))
  row : W.ownsRow base 3 1 (.slice A t.s.length d) t.s.length (nums .i64 t.s)
  ne : (Value.slice A t.s.length d).ownBlock ≠ some ob
theorem Both.tree {W : World} {base ob g : Nat} {A : Option Addr} {d : Nat} {t : T} (h : Both W base ob g A d t) : TreeAt W base ob g t := ⟨h.ge, _, h.cells, h.row, h.ne⟩
theorem Both.new {w4 w5 : World} {base ob : Nat} {A : Option Addr} {d : Nat} {a b : T} {m : Int} (hb : Below w4.heap.size w4 w5) (hr : w5.ownsRow w4.heap.size 3 1 (.slice A (a.s ++ b.s).length d) (a.s ++ b.s).length (nums .i64 (a.s ++ b.s))) (h0 : base ≤ w4.heap.size) (ho : ob < w4.heap.size) : Both (w5.alloc (.cells #[.int .i64 (a.w + b.w), .int .i64 m, .slice A (a.s.length + b.s.length) d] 120)) base ob w5.heap.size A d (join a b m) := by
  have hl : (a.s ++ b.s).length = a.s.length + b.s.length := List.length_append
  have hh := heap_alloc_new w5 (.cells #[.int .i64 (a.w + b.w), .int .i64 m, .slice A (a.s.length + b.s.length) d] 120)
  refine ⟨by have := hb.size; omega, ?_, ?_, fun e => ?_⟩
  · show _ = some (Obj.cells #[.int .i64 (a.w + b.w), .int .i64 m, .slice A (a.s ++ b.s).length d] 120 (0, 0))
    rw [hl]
    exact hh
  · exact own_weaken (pw_own_below hr (below_alloc (Below.refl _ _) _)) h0
  · have := own_base hr ob e
    omega
theorem St.store {w wr : World} {L : Nat} {out : List Int} {bs : List Nat} {ts : List T} (h : St w wr L out bs ts) (s x : Int) : St w (wr.setCell ⟨w.heap.size, s.toNat, none⟩ (.int .i64 x)) L (out.set s.toNat x) bs ts := by
  obtain ⟨cs, hc⟩ := own_typed h.row w.heap.size rfl
  have far : ∀ (k : Nat) (cs' : Array Value) (t : TypeId), wr.heap[k]? = some (.cells cs' t (0, 0)) → t ≠ 3 → (wr.setCell ⟨w.heap.size, s.toNat, none⟩ (.int .i64 x)).heap[k]? = wr.heap[k]? := fun k cs' t hk ht => by
    refine Below.heap_setCell wr ⟨w.heap.size, s.toNat, none⟩ _ k ?_
    intro e
    have e' : k = w.heap.size := e
    rw [e', hc] at hk
    cases hk
    exact ht rfl
  obtain ⟨⟨v, hv, ht⟩, hge⟩ := h.heap
  refine ⟨h.below.setCell (p := ⟨w.heap.size, s.toNat, none⟩) (Nat.le_refl _) _, ⟨⟨v, (far _ _ _ hv (by decide)).trans hv, ?_, ht.len, fun i hi => ?_⟩, hge⟩, by rw [List.length_set]; exact h.len, (own_store h.row s x).1⟩
  · exact own_move ht.row fun k hk => by
      obtain ⟨c2, h2⟩ := own_typed ht.row k hk
      exact far _ _ _ h2 (by decide)
  · have h1 := ht.at_ i hi
    refine h1.move ?_ fun k c2 hk hne => Below.heap_setCell wr ⟨w.heap.size, s.toNat, none⟩ _ k hne
    obtain ⟨_, sv, h2, _⟩ := h1
    exact far _ _ _ h2 (by decide)
theorem Both.store {w wr : World} {L g d : Nat} {A : Option Addr} {t : T} {out : List Int} {bs : List Nat} {ts : List T} (h : St w wr L out bs ts) (hb : Both wr w.heap.size w.heap.size g A d t) (s x : Int) : Both (wr.setCell ⟨w.heap.size, s.toNat, none⟩ (.int .i64 x)) w.heap.size w.heap.size g A d t := by
  obtain ⟨cs, hc⟩ := own_typed h.row w.heap.size rfl
  refine ⟨hb.ge, ?_, own_move hb.row fun k hk => Below.heap_setCell wr ⟨w.heap.size, s.toNat, none⟩ _ k (fun e => hb.ne (by rw [hk, e])), hb.ne⟩
  rw [Below.heap_setCell wr ⟨w.heap.size, s.toNat, none⟩ _ g (fun e => by have := hb.cells; rw [e, hc] at this; cases this)]
  exact hb.cells
/-- Two rows of a literal are read. -/
theorem two_C {W : World} {base : Nat} {sv1 sv2 : Value} {xs ys : List Int} (h1 : W.ownsRow base 3 1 sv1 xs.length (nums .i64 xs)) (h2 : W.ownsRow base 3 1 sv2 ys.length (nums .i64 ys)) : Kd.C (Kd.slice 3 (Kd.int .i64)) (W.alloc (.cells #[sv1, sv2] 22)) (some ⟨W.heap.size, 0, none⟩) 2 [xs, ys] := by
  have K : ∀ (sv : Value) (zs : List Int), W.ownsRow base 3 1 sv zs.length (nums .i64 zs) → (Kd.slice 3 (Kd.int .i64)).K (W.alloc (.cells #[sv1, sv2] 22)) zs [sv] := fun sv zs h => by
    have hR : (Kd.int .i64).R 3 (W.alloc (.cells #[sv1, sv2] 22)) base (fun _ => True) sv zs := Kd.R_of_own (pw_own_below h (below_alloc (Below.refl _ _) _)) (fun _ _ => trivial)
    obtain ⟨A, c, e⟩ := own_slice h
    subst e
    obtain ⟨e, hc, hC⟩ := Kd.R_reads' hR
    exact ⟨A, c, rfl, hc, hC⟩
  have hh := heap_alloc_new W (.cells #[sv1, sv2] 22)
  refine ⟨rfl, by decide, fun _ => ⟨_, rfl, fun j p hj => ?_⟩⟩
  have cell : ∀ (i : Nat) (u : Value), (#[sv1, sv2] : Array Value)[i]? = some u → (W.alloc (.cells #[sv1, sv2] 22)).cell? ((⟨W.heap.size, 0, none⟩ : Addr).add (i * 1 + 0)) = some u := fun i u hu => by
    rw [show i * 1 + 0 = i by omega, add_plain, blk_cell hh]
    exact hu
  match j, hj with
  | 0, hj =>
    cases hj
    refine ⟨[sv1], rfl, K _ _ h1, fun i u hi => ?_⟩
    match i, hi with
    | 0, hi => cases hi; exact cell 0 _ rfl
  | 1, hj =>
    cases hj
    refine ⟨[sv2], rfl, K _ _ h2, fun i u hi => ?_⟩
    match i, hi with
    | 0, hi => cases hi; exact cell 1 _ rfl
theorem grow_is (n : Nat) (h : n ≤ 1000000) : slices_Grow_int_int_Fnil0.f (n : Int) = some [] := by
  have hw : wrap64 (n : Int) = (n : Int) := by unfold wrap64; omega
  unfold slices_Grow_int_int_Fnil0.f
  rw [hw, if_neg (by omega)]
  by_cases h0 : (n : Int) > 0
  · rw [if_pos h0, if_pos (by omega), if_pos (by simp; omega)]
    rfl
  · rw [if_neg h0]
theorem concat_is (xs ys : List Int) (h : xs.length + ys.length ≤ 1000) : slices_Concat_int_int.f 10 [xs, ys] = some (xs ++ ys) := by
  have w0 : wrap64 (0 + (xs.length : Int)) = (xs.length : Int) := by unfold wrap64; omega
  have w1 : wrap64 ((xs.length : Int) + (ys.length : Int)) = ((xs.length + ys.length : Nat) : Int) := by unfold wrap64; omega
  have g := grow_is (xs.length + ys.length) (by omega)
  have r0 : rd_L1 [xs, ys] 0 = xs := rfl
  have r1 : rd_L1 [xs, ys] 1 = ys := rfl
  have k1 : wrap64 (0 + 1) = 1 := by unfold wrap64; omega
  have k2 : wrap64 (1 + 1) = 2 := by unfold wrap64; omega
  have l2 : ([xs, ys].length : Int) = 2 := rfl
  unfold slices_Concat_int_int.f
  rw [l2, slices_Concat_int_int.l0, if_pos (by decide), if_pos (by decide), l2, if_pos (by decide), r0, w0, if_neg (by omega), k1]
  rw [slices_Concat_int_int.l0, if_pos (by decide), if_pos (by decide), l2, if_pos (by decide), r1, w1, if_neg (by omega), k2]
  rw [slices_Concat_int_int.l0, if_neg (by decide), g, Option.bind_some, l2]
  rw [slices_Concat_int_int.l1, if_pos (by decide), if_pos (by decide), l2, if_pos (by decide), r0, if_pos (by simp; omega), k1]
  rw [slices_Concat_int_int.l1, if_pos (by decide), if_pos (by decide), l2, if_pos (by decide), r1, if_pos (by simp; omega), k2]
  rw [slices_Concat_int_int.l1, if_neg (by decide)]
  rfl
theorem concat_call (w : World) (xs ys : List Int) (A1 A2 : Option Addr) (d1 d2 : Nat) {base : Nat} (h1 : w.ownsRow base 3 1 (.slice A1 xs.length d1) xs.length (nums .i64 xs)) (h2 : w.ownsRow base 3 1 (.slice A2 ys.length d2) ys.length (nums .i64 ys)) (h : xs.length + ys.length ≤ 1000) :
    Calls Try.prog 79 #[.slice (some ⟨w.heap.size, 0, none⟩) 2 2] (w.alloc (.cells #[.slice A1 xs.length d1, .slice A2 ys.length d2] 22)).drew fun e w' => ∃ v0_ : Value, e = .returned (v0_) ∧ w'.ownsRow w.heap.size 3 1 v0_ (xs ++ ys).length (nums .i64 (xs ++ ys)) ∧ Below w.heap.size w w' :=
  (slices_Concat_int_int.calls 10 (some ⟨w.heap.size, 0, none⟩) 2 [xs, ys] (xs ++ ys) (w.alloc (.cells #[.slice A1 xs.length d1, .slice A2 ys.length d2] 22)).drew (Kd.C_drew (two_C h1 h2)) (Nat.le_refl 2) (concat_is xs ys h)).mono fun e w' ⟨v, he, hr, hb⟩ => ⟨v, he, Kd.own_of_R (Kd.R_lower hr (by simp [World.drew])), below_then (below_drew1 (below_alloc (Below.refl _ _) _)) (by simp [World.drew]) hb⟩
theorem tree_new (W : World) (base ob : Nat) (n i : Int) (hb : base ≤ W.heap.size) (ho : ob < W.heap.size) : TreeAt ((W.alloc (.cells #[.int .i64 i] 3)).alloc (.cells #[.int .i64 n, .int .i64 i, .slice (some ⟨W.heap.size, 0, none⟩) 1 1] 120)) base ob (W.heap.size + 1) ⟨n, i, [i]⟩ := by
  have h1 := own_lit W base 3 .i64 [i] hb (by simp)
  have h2 := heap_alloc_new (W.alloc (.cells #[.int .i64 i] 3)) (.cells #[.int .i64 n, .int .i64 i, .slice (some ⟨W.heap.size, 0, none⟩) 1 1] 120)
  have e : (W.alloc (.cells #[.int .i64 i] 3)).heap.size = W.heap.size + 1 := by simp
  rw [e] at h2
  refine ⟨by omega, _, h2, ?_, by simp [Value.ownBlock]; omega⟩
  exact pw_own_below h1 (below_alloc (Below.refl _ _) _)
theorem pushed_ty {w w' : World} {base ob hb b : Nat} {bs : List Nat} {ts : List T} {t : T} {e : Ending} (h : Pushed w base ob hb b bs ts t e w') (hh : HeapAt w base ob hb bs ts) : Kept w w' (Ty w) := by
  obtain ⟨_, _, _, v, hv, hk⟩ := h
  exact hk.mono fun k e => by
    rcases e with e | e
    · rw [e]; exact hb_ty hh
    · obtain ⟨⟨v', hv', ht⟩, hge⟩ := hh
      rw [hv'] at hv
      cases hv
      obtain ⟨cs, hc⟩ := own_typed ht.row k e
      exact ⟨cs, .inr hc⟩
theorem St.pushed {w wr W2 w' : World} {L b : Nat} {out : List Int} {bs : List Nat} {ts : List T} {t : T} {e : Ending} (h : St w wr L out bs ts) (hb : Below wr.heap.size wr W2) (hp : Pushed W2 w.heap.size w.heap.size (w.heap.size + 1) b bs ts t e w') : St w w' L out (bs ++ [b]) (ts ++ [t]) := by
  have hh := h.heap.below hb
  have hk := pushed_ty hp hh
  obtain ⟨_, h2, h3, _⟩ := hp
  exact ⟨(below_then h.below (by have := h.lt; omega) hb).trans h3, h2, h.len, kept_own hk (pw_own_below h.row hb)⟩
end Go.Proofs.Ytbifignggnfodaa.HeapA
