/- The walk of huff.Make: a book of codes by lengths, at its block, with a row of symbols for each length; given that the lengths may be. -/
import Derived.Test.YtbifignggnfodaaProg
import Derived.Below
import Derived.Deep.Draws
import Derived.Deep.AppendLies
import Derived.Maps.AppendAt
import Derived.OwnWalk
import Derived.Laws.MakeOwn
import Derived.Laws.OwnMore
import Derived.Deep.OwnRows
import Derived.Tactics
import Derived.WalkKit
import Derived.KernelRfl
import Derived.RowKit3
import Derived.Deep.LoopGhost
import Derived.Deep.RegionHeld3
import Derived.Deep.RegionLaw
import Derived.Deep.QuietTactic
import Derived.BigQuiet
import Derived.Lib.Hide
import Derived.Test.YtbifignggnfodaaHuffM
import Derived.Test.YtbifignggnfodaaWMore
namespace Go.Proofs.Ytbifignggnfodaa.HuffA
open Go.RowKit Go.Proofs.YtbifignggnfodaaW.PrintWords Go.Proofs.YtbifignggnfodaaW.PrintLast Go.Proofs.YtbifignggnfodaaW.PrintMore Go.Proofs.Ytbifignggnfodaa.HuffM
set_option linter.unusedVariables false
set_option linter.unusedSimpArgs false
/-- The cells of a book. -/
def bk (f c : Nat → Int) (v : Nat → Value) (x : Int) : Array Value := Array.ofFn (n := 49) fun i => if i.val < 16 then .int .i64 (f i.val) else if i.val < 32 then .int .i64 (c (i.val - 16)) else if i.val < 48 then v (i.val - 32) else .int .i64 x
def up {α : Type} (f : Nat → α) (n : Nat) (y : α) : Nat → α := fun m => if m = n then y else f m
variable {f c : Nat → Int} {v : Nat → Value} {x : Int}
theorem bk_size : (bk f c v x).size = 49 := by simp [bk]
theorem bk_f {n : Nat} (h : n < 16) : (bk f c v x)[n]? = some (.int .i64 (f n)) := by
  unfold bk
  rw [Array.getElem?_ofFn, dif_pos (by omega)]
  simp [h]
theorem bk_c {n : Nat} (h : n < 16) : (bk f c v x)[16 + n]? = some (.int .i64 (c n)) := by
  unfold bk
  rw [Array.getElem?_ofFn, dif_pos (by omega)]
  show some (if 16 + n < 16 then Value.int .i64 (f (16 + n)) else if 16 + n < 32 then .int .i64 (c (16 + n - 16)) else _) = _
  rw [if_neg (by omega), if_pos (by omega), Nat.add_sub_cancel_left]
theorem bk_v {n : Nat} (h : n < 16) : (bk f c v x)[32 + n]? = some (v n) := by
  unfold bk
  rw [Array.getElem?_ofFn, dif_pos (by omega)]
  show some (if 32 + n < 16 then Value.int .i64 (f (32 + n)) else if 32 + n < 32 then .int .i64 (c (32 + n - 16)) else if 32 + n < 48 then v (32 + n - 32) else _) = _
  rw [if_neg (by omega), if_neg (by omega), if_pos (by omega), Nat.add_sub_cancel_left]
theorem bk_x : (bk f c v x)[48]? = some (.int .i64 x) := by
  unfold bk
  rw [Array.getElem?_ofFn, dif_pos (by omega)]
  simp
theorem bk_set_f {n : Nat} (h : n < 16) (y : Int) : (bk f c v x).setIfInBounds n (.int .i64 y) = bk (up f n y) c v x := by
  refine Array.ext (by simp [bk]) fun i h1 h2 => ?_
  rw [Array.getElem_setIfInBounds (by simpa [bk] using h1)]
  simp only [bk, Array.getElem_ofFn]
  split
  · subst_vars; simp [up, h]
  · split
    · unfold up; rw [if_neg (by omega)]
    · rfl
theorem bk_set_c {n : Nat} (h : n < 16) (y : Int) : (bk f c v x).setIfInBounds (16 + n) (.int .i64 y) = bk f (up c n y) v x := by
  refine Array.ext (by simp [bk]) fun i h1 h2 => ?_
  have hi : i < 49 := by simpa [bk] using h1
  rw [Array.getElem_setIfInBounds (by simpa [bk] using h1)]
  simp only [bk, Array.getElem_ofFn]
  by_cases e : 16 + n = i
  · subst e
    rw [if_pos rfl, if_neg (by omega), if_pos (by omega)]
    simp [up]
  · rw [if_neg e]
    split
    · rfl
    · split
      · unfold up; rw [if_neg (by omega)]
      · rfl
theorem bk_set_v {n : Nat} (h : n < 16) (y : Value) : (bk f c v x).setIfInBounds (32 + n) y = bk f c (up v n y) x := by
  refine Array.ext (by simp [bk]) fun i h1 h2 => ?_
  have hi : i < 49 := by simpa [bk] using h1
  rw [Array.getElem_setIfInBounds (by simpa [bk] using h1)]
  simp only [bk, Array.getElem_ofFn]
  by_cases e : 32 + n = i
  · subst e
    rw [if_pos rfl, if_neg (by omega), if_neg (by omega), if_pos (by omega)]
    simp [up]
  · rw [if_neg e]
    split
    · rfl
    · split
      · rfl
      · split
        · unfold up; rw [if_neg (by omega)]
        · rfl
theorem bk_set_x (y : Int) : (bk f c v x).setIfInBounds 48 (.int .i64 y) = bk f c v y := by
  refine Array.ext (by simp [bk]) fun i h1 h2 => ?_
  have hi : i < 49 := by simpa [bk] using h1
  rw [Array.getElem_setIfInBounds (by simpa [bk] using h1)]
  simp only [bk, Array.getElem_ofFn]
  by_cases e : 48 = i
  · subst e
    rw [if_pos rfl, if_neg (by omega), if_neg (by omega), if_neg (by omega)]
  · rw [if_neg e]
    split
    · rfl
    · split
      · rfl
      · rw [if_pos (by omega), if_pos (by omega)]
theorem bk_start : bk (fun _ => 0) (fun _ => 0) (fun _ => .slice none 0 0) 1 = #[.int .i64 0, .int .i64 0, .int .i64 0, .int .i64 0, .int .i64 0, .int .i64 0, .int .i64 0, .int .i64 0, .int .i64 0, .int .i64 0, .int .i64 0, .int .i64 0, .int .i64 0, .int .i64 0, .int .i64 0, .int .i64 0, .int .i64 0, .int .i64 0, .int .i64 0, .int .i64 0, .int .i64 0, .int .i64 0, .int .i64 0, .int .i64 0, .int .i64 0, .int .i64 0, .int .i64 0, .int .i64 0, .int .i64 0, .int .i64 0, .int .i64 0, .int .i64 0, .slice none 0 0, .slice none 0 0, .slice none 0 0, .slice none 0 0, .slice none 0 0, .slice none 0 0, .slice none 0 0, .slice none 0 0, .slice none 0 0, .slice none 0 0, .slice none 0 0, .slice none 0 0, .slice none 0 0, .slice none 0 0, .slice none 0 0, .slice none 0 0, .int .i64 1] := by
  kernel_rfl
theorem rd_mem (l : List Int) (k : Nat) (h : k < l.length) : rd l k ∈ l := by
  unfold rd
  rw [Int.toNat_natCast, List.getD_eq_getElem?_getD, List.getElem?_eq_getElem h]
  exact List.getElem_mem _
theorem info3 : (Try.prog.info? 3).map (fun i => (i.zero, i.size, i.bytes)) = some (some (.int .i64 0), 1, 8) := by kernel_rfl
theorem bk_congr {f' : Nat → Int} (h : ∀ i, i < 16 → f i = f' i) : bk f c v x = bk f' c v x := by
  refine Array.ext (by simp [bk]) fun i h1 h2 => ?_
  simp only [bk, Array.getElem_ofFn]
  split
  · rename_i hi
    rw [h i hi]
  · rfl
/-- An element of an array by value. -/
theorem run_index_arr {P : Program} {w : World} (t e : TypeId) (n : Nat) (cs : Array Value) (k : IntKind) (i : Nat) (h : P.underlying t = some (.array n e)) (hi : i < n) (v : Value) (hv : cs[i]? = some v) (hs : ∀ w, (sizeOf e).run P w = .ok 1 w) (ha : ∀ w, (isAgg e).run P w = .ok false w) :
    (Instr.index t (.agg cs) (.int k (i : Int))).run P w = .ok v w := by
  have hn : (0 ≤ (i : Int) ∧ (i : Int) < (n : Int)) := by omega
  simp [Instr.index, run_underlying h, asIntOf, hn, go_sem, hs, part, ha, hv]
  intro h2
  omega
/-- A book's rows, each of the call's own, pairwise apart. -/
structure Rows (W : World) (base : Nat) (vs : Nat → Value) (l : List Int) : Prop where
  own : ∀ n : Nat, n < 16 → W.ownsRow base 3 1 (vs n) (pos l n).length (nums .i64 (pos l n))
  apart : ∀ m n : Nat, m < 16 → n < 16 → m ≠ n → ∀ k, (vs m).ownBlock = some k → (vs n).ownBlock ≠ some k
theorem rows_move {W W1 : World} {base : Nat} {vs : Nat → Value} {l : List Int} (h : Rows W base vs l) (hm : ∀ n : Nat, n < 16 → ∀ k, (vs n).ownBlock = some k → W1.heap[k]? = W.heap[k]?) : Rows W1 base vs l :=
  ⟨fun n hn => own_move (h.own n hn) (hm n hn), h.apart⟩
/-- A row of a book is not the book's own block. -/
theorem rows_ne {W : World} {base g : Nat} {vs : Nat → Value} {l : List Int} {cs : Array Value} (h : Rows W base vs l) (hb : W.heap[g]? = some (.cells cs 98 (0, 0))) (n : Nat) (hn : n < 16) (k : Nat) (hk : (vs n).ownBlock = some k) : k ≠ g := by
  rintro rfl
  obtain ⟨c1, h1⟩ := own_typed (h.own n hn) k hk
  rw [hb] at h1
  cases h1
theorem far_after {W W1 : World} {row : Option Nat} {g : Nat} {o : Obj} (hg : W.grownBy W1 row) (hb : W.heap[g]? = some o) (hne : some g ≠ row) : W1.heap[g]? = some o := (hg.block g (blk_lt hb) hne).trans hb
theorem rows_ne' {W : World} {base g : Nat} {vs : Nat → Value} {l : List Int} {cs : Array Value} (h : Rows W base vs l) (hb : W.heap[g]? = some (.cells cs 98 (0, 0))) (n : Nat) (hn : n < 16) : some g ≠ (vs n).ownBlock := fun he => rows_ne h hb n hn g he.symm rfl
/-- A row grows by a symbol. -/
theorem rows_put {W W1 : World} {base : Nat} {vs : Nat → Value} {l : List Int} (h : Rows W base vs l) (n : Nat) (hn : n < 16) (h0 : n ≠ 0) (v1 : Value)
    (ho : W1.ownsRow base 3 1 v1 ((pos l n).length + 1) (nums .i64 (pos l n) ++ [.int .i64 (l.length : Int)])) (hg : W.grownBy W1 (vs n).ownBlock)
    (ha : ∀ k, v1.ownBlock = some k → (vs n).ownBlock = some k ∨ W.heap.size ≤ k) : Rows W1 base (up vs n v1) (l ++ [(n : Int)]) := by
  refine ⟨fun m hm => ?_, fun a b hA hB hne k hk hk2 => ?_⟩
  · unfold up
    by_cases e : m = n
    · subst e
      rw [if_pos rfl, pos_snoc_eq l m h0, List.length_append, nums_append]
      exact ho
    · rw [if_neg e, pos_snoc_ne l (n : Int) m (by omega)]
      refine own_move (h.own m hm) fun k hk => hg.block k (own_lt (h.own m hm) k hk) fun he => ?_
      exact h.apart m n hm hn e k hk he.symm
  · unfold up at hk hk2
    by_cases e : a = n
    · rw [if_pos e] at hk
      rw [if_neg (by omega)] at hk2
      rcases ha k hk with h1 | h1
      · exact h.apart n b hn hB (by omega) k h1 hk2
      · have := own_lt (h.own b hB) k hk2
        omega
    · rw [if_neg e] at hk
      by_cases e2 : b = n
      · rw [if_pos e2] at hk2
        rcases ha k hk2 with h1 | h1
        · exact h.apart a n hA hn e k hk h1
        · have := own_lt (h.own a hA) k hk
          omega
      · rw [if_neg e2] at hk2
        exact h.apart a b hA hB hne k hk hk2
/-- The round's rows: appended to, then the row laid into the book. -/
theorem rows_round {W w3 : World} {base g gg cap k n : Nat} {vs : Nat → Value} {l : List Int} {cs : Array Value} (h : Rows W base vs (l.take k)) (hk : k < l.length) (hx : rd l k = (n : Int)) (hn : n < 16) (h0 : n ≠ 0)
    (ho : w3.ownsRow base 3 1 (.slice (some ⟨gg, 0, none⟩) ((pos (l.take k) n).length + 1) cap) ((pos (l.take k) n).length + 1) (nums .i64 (pos (l.take k) n) ++ [.int .i64 (k : Int)])) (hg : W.grownBy w3 (vs n).ownBlock)
    (ha : (vs n).ownBlock = some gg ∨ gg = W.heap.size) (hb : w3.heap[g]? = some (.cells cs 98 (0, 0))) (i : Nat) (u : Value) : Rows (w3.setCell ⟨g, i, none⟩ u) base (up vs n (.slice (some ⟨gg, 0, none⟩) ((pos (l.take k) n).length + 1) cap)) (l.take (k + 1)) := by
  have hlk : (l.take k).length = k := by rw [List.length_take]; omega
  have ht : l.take (k + 1) = l.take k ++ [(n : Int)] := by
    rw [List.take_succ_eq_append_getElem hk, ← hx]
    unfold rd
    rw [Int.toNat_natCast, List.getD_eq_getElem?_getD, List.getElem?_eq_getElem hk]
    rfl
  rw [ht]
  have h1 := rows_put h n hn h0 _ (by rw [hlk]; exact ho) hg (fun q hq => by
    have : gg = q := by simpa [Value.ownBlock] using hq
    subst this
    rcases ha with ha | ha
    · exact .inl ha
    · exact .inr (by omega))
  exact rows_move h1 fun m hm q hq => Below.heap_setCell w3 ⟨g, i, none⟩ _ q (rows_ne h1 hb m hm q hq)
theorem cnt_round {l : List Int} {k n : Nat} (hk : k < l.length) (hx : rd l k = (n : Int)) (h0 : n ≠ 0) : cnt (l.take (k + 1)) = up (cnt (l.take k)) n (cnt (l.take k) n + 1) := by
  have ht : l.take (k + 1) = l.take k ++ [(n : Int)] := by
    rw [List.take_succ_eq_append_getElem hk, ← hx]
    unfold rd
    rw [Int.toNat_natCast, List.getD_eq_getElem?_getD, List.getElem?_eq_getElem hk]
    rfl
  rw [ht]
  funext m
  unfold up
  by_cases e : m = n
  · subst e
    rw [if_pos rfl, cnt_snoc_eq _ _ h0]
  · rw [if_neg e, cnt_snoc_ne _ _ _ (by omega)]
theorem none_round {l : List Int} {k n : Nat} (hk : k < l.length) (hx : rd l k = (n : Int)) (h0 : n = 0) : cnt (l.take (k + 1)) = cnt (l.take k) ∧ pos (l.take (k + 1)) = pos (l.take k) := by
  have ht : l.take (k + 1) = l.take k ++ [(n : Int)] := by
    rw [List.take_succ_eq_append_getElem hk, ← hx]
    unfold rd
    rw [Int.toNat_natCast, List.getD_eq_getElem?_getD, List.getElem?_eq_getElem hk]
    rfl
  rw [ht]
  exact ⟨funext fun m => cnt_snoc_zero _ _ _ (by omega), funext fun m => pos_snoc_zero _ _ _ (by omega)⟩
/-- What Make comes to: a book at a block of its own. -/
def Made (w : World) (l : List Int) (e : Ending) (w' : World) : Prop := ∃ vs : Nat → Value, e = .returned (.pointer (some ⟨w.heap.size, 0, none⟩)) ∧ w'.heap[w.heap.size]? = some (.cells (bk (cd l) (cnt l) vs (lft l 15)) 98 (0, 0)) ∧ Rows w' w.heap.size vs l ∧ Below w.heap.size w w'
set_option maxHeartbeats 8000000 in
set_option maxRecDepth 100000 in
theorem make_any (A0 : Option Addr) (c0 : Nat) (l : List Int) (w : World) (hr0 : Kd.C (Kd.int .i64) w A0 l.length l) (hc0 : l.length ≤ c0) (hm : l.length ≤ 288) (hb : ∀ x ∈ l, 0 ≤ x ∧ x ≤ 15) :
    Calls Try.prog 72 #[.slice A0 l.length c0] w (Made w l) := by
  have HR0 := Aside0.mk hr0
  have HC0 := Aside0.mk hc0
  have HM := Aside0.mk hm
  have HX := Aside0.mk hb
  have HB := Aside0.mk (Below.refl w.heap.size w)
  clear hr0 hc0 hm hb
  obtain ⟨i0, hi0, hz0, hz1, hz2_⟩ := info_parts info3
  go_enter Try.func72, Try.ntmps72
  go_wp2_with (((with_reducible refine gate_dst (N := 9) rfl ?_); refine box_event ?hg (N := 9) ?hd (cs := bk (fun _ => 0) (fun _ => 0) (fun _ => .slice none 0 0) 1) (t := 98) ?hr ?_; (case hd => rfl); (case hg => rfl); (case hr => rw [bk_start]; first | (go_simp; done) | (go_simp; rfl)); intro g hg w1 hbox hb; have BK1 := Aside0.mk hbox; have HG := Aside0.mk hg; have HB1 := Aside0.mk hb; clear hbox hg hb))
  go_loopw [12] (fun v12 wr => ∃ (k : Nat) (vs : Nat → Value), v12 = .int .i64 k ∧ k ≤ l.length ∧ Aside0 (wr.heap[g]? = some (.cells (bk (fun _ => 0) (cnt (l.take k)) vs 1) 98 (0, 0))) ∧ Aside0 (Rows wr w.heap.size vs (l.take k)) ∧ Aside0 (Below w.heap.size w wr)) (fun v12 _ => l.length - (intOf v12).toNat)
  case atStart =>
    refine ⟨0, fun _ => .slice none 0 0, rfl, Nat.zero_le _, ⟨?_⟩, ⟨?_⟩, HB1⟩
    · rw [BK1.out]
      congr 3
      funext n
      rw [List.take_zero, cnt_nil]
    · refine ⟨fun n hn => ?_, fun m n _ _ _ k hk => by simp [Value.ownBlock] at hk⟩
      rw [List.take_zero, pos_nil]
      exact own_nil _ _ _ _
  case round =>
    obtain ⟨k, vs, rfl, hk, BK, RW, HB2⟩ := hrel
    have hM := HM.out
    by_cases hlt : k < l.length
    · have hlt' : (k : Int) < (l.length : Int) := by omega
      obtain ⟨n, hn⟩ : ∃ n : Nat, rd l k = (n : Int) := ⟨(rd l k).toNat, by
        have := HX.out (rd l k) (rd_mem l k hlt)
        omega⟩
      have hn15 : (n : Int) ≤ 15 := by
        have := HX.out (rd l k) (rd_mem l k hlt)
        omega
      have hn0 : (0 : Int) ≤ (n : Int) := by omega
      obtain ⟨ad, e0, hx⟩ := Kd.at_int HR0.out (k : Int) (by omega) hlt'
      cases e0
      have hx' : wr.cell? (ad.add k) = some (.int .i64 (n : Int)) := by
        rw [← hn]
        have := pw_cell_below HB2.out hx
        rw [Int.toNat_natCast] at this
        exact this
      clear hx
      have HN := Aside0.mk hn
      clear hn
      have hc1 : wr.cell? ⟨g, 16 + n, none⟩ = some (.int .i64 (cnt (l.take k) n)) := (blk_cell BK.out (16 + n)).trans (bk_c (by omega))
      by_cases hp : (0 : Int) < (n : Int)
      · have hn16 : (n : Int) < 16 := by omega
        have hf1 : wr.frozen? ⟨g, 16 + n, none⟩ = false := blk_frozen BK.out (16 + n)
        have hc1b : 0 ≤ cnt (l.take k) n ∧ cnt (l.take k) n ≤ 288 := by have := cnt_bd (l.take k) n; have h2 := List.length_take_le' k l; have := HM.out; omega
        obtain ⟨hc10, hc11⟩ := hc1b
        go_wp2_with fail
        go_region_with (fail)
        go_wp2_with fail
        have hw64 : IntKind.i64.wrap (cnt (l.take k) n + 1) = cnt (l.take k) n + 1 := by rw [IntKind.wrap_i64]; omega
        have hgl : g < wr.heap.size := blk_lt BK.out
        have BK2 : Aside0 ((wr.setCell ⟨g, 16 + n, none⟩ (.int .i64 (IntKind.i64.wrap (cnt (l.take k) n + 1)))).drew.heap[g]? = some (.cells (bk (fun _ => 0) (up (cnt (l.take k)) n (cnt (l.take k) n + 1)) vs 1) 98 (0, 0))) := ⟨blk_drew (blk_put BK.out (16 + n) _ (by rw [hw64]; exact bk_set_c (by omega) _))⟩
        have RW2 : Aside0 (Rows (wr.setCell ⟨g, 16 + n, none⟩ (.int .i64 (IntKind.i64.wrap (cnt (l.take k) n + 1)))).drew w.heap.size vs (l.take k)) := ⟨rows_move RW.out fun m hm q hq => Below.heap_setCell wr ⟨g, 16 + n, none⟩ _ q (rows_ne RW.out BK.out m hm q hq)⟩
        have HB3 : Aside0 (Below w.heap.size w (wr.setCell ⟨g, 16 + n, none⟩ (.int .i64 (IntKind.i64.wrap (cnt (l.take k) n + 1)))).drew) := ⟨below_drew1 (below_set HB2.out (Nat.le_of_eq HG.out.symm))⟩
        clear hc1 hf1 hw64 hgl hx'
        generalize (wr.setCell ⟨g, 16 + n, none⟩ (.int .i64 (IntKind.i64.wrap (cnt (l.take k) n + 1)))).drew = w2 at BK2 RW2 HB3 ⊢
        clear BK RW HB2
        have hv2 : w2.cell? ⟨g, 32 + n, none⟩ = some (vs n) := (blk_cell BK2.out (32 + n)).trans (bk_v (by omega))
        have hA := RW2.out.own n (by omega)
        have hlb : (pos (l.take k) n).length ≤ 288 := by have := pos_length (l.take k) n; omega
        have hA2 := Aside0.mk hA
        have hlb2 := Aside0.mk hlb
        have hz2 := Aside0.mk HB3.out.size
        clear hA hlb
        have hnn : n < 16 := by omega
        have hv3 : (w2.alloc (.cells #[.int .i64 (k : Int)] 3)).cell? ⟨g, 32 + n, none⟩ = some (vs n) := (blk_cell (blk_alloc BK2.out _) (32 + n)).trans (bk_v hnn)
        go_region_law ((refine step_append_lies _ (by rfl) _ _ _ (by rfl) w.heap.size 3 i0 _ 1 8 Try.underlying22 hi0 hz0 hz1 hz2_ rfl (by omega) (vs n) (pos (l.take k) n).length (nums .i64 (pos (l.take k) n)) (by rfl) (pw_own_below hA2.out (by repeat (first | exact Below.refl _ _ | apply below_alloc | apply pw_below_drewN | apply below_drew1))) ⟨w2.heap.size, 0, none⟩ 1 1 [.int .i64 (k : Int)] (by rfl) (by rfl) (World.news_of_block (cs := #[.int .i64 (k : Int)]) (t := 3) (fr := (0, 0)) (heap_alloc_new w2 _)) (by simp [Value.oneCell']) (by omega) (by have := hlb2.out; unfold maxLen; omega) (by have := hlb2.out; omega) (by have := hz2.out; simp; omega) (w2.heap.size + 1) (by simp) ?_; intro gg cap w3 hown1 hgrow hat hlt; have BK3 : Aside0 (w3.heap[g]? = some (.cells (bk (fun _ => 0) (up (cnt (l.take k)) n (cnt (l.take k) n + 1)) vs 1) 98 (0, 0))) := ⟨far_after hgrow (by (with_reducible repeat (first | refine blk_drewN ?_ _ | refine blk_drew ?_ | refine blk_alloc ?_ _)); exact BK2.out) (rows_ne' RW2.out BK2.out n hnn)⟩; have H1 := Aside0.mk hown1; have H2 := Aside0.mk hgrow; have H3 := Aside0.mk hat; clear hown1 hgrow hat hlt; have hcw : w3.cell? ⟨g, 32 + n, none⟩ = some (vs n) := (blk_cell BK3.out (32 + n)).trans (bk_v hnn); have hfw : w3.frozen? ⟨g, 32 + n, none⟩ = false := blk_frozen BK3.out (32 + n)))
        all_goals
          go_wp2
          go_roundw
          case rel =>
            refine ⟨k + 1, up vs n (.slice (some ⟨gg, 0, none⟩) ((pos (l.take k) n).length + 1) cap), by go_num, by omega, ⟨?_⟩, ⟨?_⟩, ⟨?_⟩⟩
            · rw [cnt_round hlt HN.out (by omega)]
              (with_reducible repeat (first | refine blk_drewN ?_ _ | refine blk_drew ?_ | refine blk_alloc ?_ _))
              exact blk_put BK3.out (32 + n) _ (bk_set_v hnn _)
            · have := rows_round (W := (w2.alloc (.cells #[.int .i64 (k : Int)] 3)).drew) (rows_move RW2.out fun m hm q hq => Below.heap_alloc w2 _ q (own_lt (RW2.out.own m hm) q hq)) hlt HN.out hnn (by omega) H1.out H2.out (by simpa using H3.out) BK3.out (32 + n) (.slice (some ⟨gg, 0, none⟩) ((pos (l.take k) n).length + 1) cap)
              exact this
            · (with_reducible repeat (first | refine below_drew1 ?_ | refine pw_below_drewN ?_ _ | refine below_set ?_ (Nat.le_of_eq HG.out.symm)))
              exact pw_below_grown (below_drew1 (below_alloc HB3.out _)) _ (by have := HB3.out.size; simp; omega) H2.out (fun q hq => own_base (RW2.out.own n hnn) q hq)
          case measure => simp [intOf]; omega
      · have h0 : n = 0 := by omega
        have ht : (0 : Int) < (n : Int) → False := hp
        go_wp2
        go_roundw
        case rel =>
          refine ⟨k + 1, vs, by go_num, by omega, ⟨?_⟩, ⟨?_⟩, ⟨?_⟩⟩
          · rw [(none_round hlt HN.out h0).1]
            exact BK.out
          · exact ⟨fun m hm => by rw [(none_round hlt HN.out h0).2]; exact RW.out.own m hm, RW.out.apart⟩
          · exact HB2.out
        case measure => simp [intOf]; omega
    · have hke : k = l.length := by omega
      have BK2 : Aside0 (wr.heap[g]? = some (.cells (bk (fun _ => 0) (cnt l) vs 1) 98 (0, 0))) := ⟨by have := BK.out; rw [hke, List.take_length] at this; exact this⟩
      have RW2 : Aside0 (Rows wr w.heap.size vs l) := ⟨by have := RW.out; rw [hke, List.take_length] at this; exact this⟩
      subst hke
      clear BK RW
      go_wp2_with fail
      go_loopw [6, 7] (fun v6 v7 ws => ∃ m : Nat, v7 = .int .i64 ((m : Int) + 1) ∧ m ≤ 15 ∧ v6 = .int .i64 (cd l m) ∧ Aside0 (ws.heap[g]? = some (.cells (bk (fun i => if i ≤ m then cd l i else 0) (cnt l) vs (lft l m)) 98 (0, 0))) ∧ Aside0 (Rows ws w.heap.size vs l) ∧ Aside0 (Below w.heap.size w ws)) (fun _ v7 _ => 17 - (intOf v7).toNat)
      case atStart =>
        refine ⟨0, rfl, by omega, rfl, ⟨?_⟩, RW2, HB2⟩
        rw [BK2.out]
        congr 3
        funext i
        by_cases e : i = 0
        · subst e; rfl
        · rw [if_neg (by omega)]
      case round =>
        clear BK2 RW2 HB2
        obtain ⟨m, rfl, hm, rfl, BK, RW, HB2⟩ := hrel
        have hcb := cnt_bd l m
        have hcb2 := cnt_bd l (m + 1)
        have hcd := cd_small l HM.out m (by omega)
        have hlf := lft_small l HM.out m (by omega)
        obtain ⟨hcb0, hcb1⟩ := hcb
        obtain ⟨hcb20, hcb21⟩ := hcb2
        obtain ⟨hcd0, hcd1⟩ := hcd
        obtain ⟨hlf0, hlf1⟩ := hlf
        by_cases hlt : (m : Int) + 1 ≤ 15
        · have hm15 : m < 15 := by omega
          have hc1 : wr.cell? ⟨g, 16 + m, none⟩ = some (.int .i64 (cnt l m)) := (blk_cell BK.out (16 + m)).trans (bk_c (by omega))
          have hf1 : wr.frozen? ⟨g, m + 1, none⟩ = false := blk_frozen BK.out (m + 1)
          have hc2 : wr.cell? ⟨g, m + 1, none⟩ = some (.int .i64 0) := (blk_cell BK.out (m + 1)).trans (by rw [bk_f (by omega), if_neg (by omega)])
          go_wp2_with fail
          have BK2 : Aside0 ((wr.setCell ⟨g, m + 1, none⟩ (.int .i64 ((cd l m + cnt l m) * 2))).heap[g]? = some (.cells (bk (fun i => if i ≤ m + 1 then cd l i else 0) (cnt l) vs (lft l m)) 98 (0, 0))) := ⟨blk_put BK.out (m + 1) _ (by
            rw [bk_set_f (by omega)]
            refine bk_congr fun i _ => ?_
            unfold up
            by_cases e : i = m + 1
            · rw [if_pos e, if_pos (by omega), e]; rfl
            · rw [if_neg e]
              dsimp only
              by_cases e2 : i ≤ m
              · rw [if_pos e2, if_pos (by omega)]
              · rw [if_neg e2, if_neg (by omega)])⟩
          have RW2 : Aside0 (Rows (wr.setCell ⟨g, m + 1, none⟩ (.int .i64 ((cd l m + cnt l m) * 2))) w.heap.size vs l) := ⟨rows_move RW.out fun i hi q hq => Below.heap_setCell wr ⟨g, m + 1, none⟩ _ q (rows_ne RW.out BK.out i hi q hq)⟩
          have HB3 : Aside0 (Below w.heap.size w (wr.setCell ⟨g, m + 1, none⟩ (.int .i64 ((cd l m + cnt l m) * 2)))) := ⟨below_set HB2.out (Nat.le_of_eq HG.out.symm)⟩
          generalize (wr.setCell ⟨g, m + 1, none⟩ (.int .i64 ((cd l m + cnt l m) * 2))) = w2 at BK2 RW2 HB3 ⊢
          clear hc1 hf1 hc2 BK RW HB2
          have hc3 : w2.cell? ⟨g, 16 + (m + 1), none⟩ = some (.int .i64 (cnt l (m + 1))) := (blk_cell BK2.out (16 + (m + 1))).trans (bk_c (by omega))
          have hc4 : w2.cell? ⟨g, 48, none⟩ = some (.int .i64 (lft l m)) := (blk_cell BK2.out 48).trans bk_x
          have hf4 : w2.frozen? ⟨g, 48, none⟩ = false := blk_frozen BK2.out 48
          go_region_with (fail)
          have hw : IntKind.i64.wrap (lft l m * 2 - cnt l (m + 1)) = lft l (m + 1) := by rw [IntKind.wrap_i64]; show _ = lft l m * 2 - cnt l (m + 1); omega
          have HW := Aside0.mk hw
          clear hw
          all_goals
            go_wp2
            go_roundw
            case rel =>
              refine ⟨m + 1, ?_, by omega, rfl, ⟨?_⟩, ⟨?_⟩, ⟨?_⟩⟩
              · exact congrArg (Value.int .i64) (by omega)
              · (with_reducible repeat (first | refine blk_drewN ?_ _ | refine blk_drew ?_ | refine blk_alloc ?_ _))
                refine blk_put BK2.out 48 _ ?_
                first | rw [HW.out, bk_set_x] | (rw [show (lft l m * 2 - cnt l (m + 1)) = lft l (m + 1) from rfl, bk_set_x]) | exact bk_set_x _
              · exact rows_move RW2.out fun i hi q hq => Below.heap_setCell w2 ⟨g, 48, none⟩ _ q (rows_ne RW2.out BK2.out i hi q hq)
              · (with_reducible repeat (first | refine below_drew1 ?_ | refine pw_below_drewN ?_ _ | refine below_set ?_ (Nat.le_of_eq HG.out.symm)))
                exact HB3.out
            case measure => simp only [intOf]; omega
        · have hm15 : m = 15 := by omega
          subst hm15
          have HGs := HG.out
          go_wp2
          go_ret
          refine ⟨vs, rfl, ?_, RW.out, HB2.out⟩
          rw [← HG.out, BK.out]
          exact congrArg (fun q => some (Obj.cells q 98 (0, 0))) (bk_congr fun i hi => if_pos (by omega))
end Go.Proofs.Ytbifignggnfodaa.HuffA
