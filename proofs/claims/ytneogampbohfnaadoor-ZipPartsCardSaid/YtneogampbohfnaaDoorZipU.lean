/- The walk of zipput.size. -/
import Derived.Test.YtneogampbohfnaaDoorZipX
import Derived.Test.YtneogampbohfnaaDoorZB0
import Derived.Test.YtneogampbohfnaaDoorZipW
namespace Go.Proofs.YtneogampbohfnaaDoor.ZipW
open Go.RowKit Go.Proofs.YtneogampbohfnaaDoorW.PrintWords Go.Proofs.YtneogampbohfnaaDoorW.PrintLast Go.Proofs.YtneogampbohfnaaDoorW.PrintMore Go.Proofs.YtneogampbohfnaaDoor.ZB
set_option linter.unusedVariables false
set_option linter.unusedSimpArgs false
/-- How many bytes the first entries have, with the end. -/
def sizeTo (xs : List S39) : Nat → Nat
 | 0 => 22
 | i + 1 => sizeTo xs i + (76 + 2 * ((rd_T39 xs (i : Int)).f0.size + 26) + (rd_T39 xs (i : Int)).f6.size)
def sizeL (xs : List S39) : Nat := sizeTo xs xs.length
/-- What may be written is small. -/
structure Small (xs : List S39) : Prop where
 n : xs.length ≤ 6
 a : ∀ i : Nat, i < xs.length → (rd_T39 xs (i : Int)).f0.size ≤ 8 ∧ (rd_T39 xs (i : Int)).f6.size ≤ 300
theorem small_of {xs : List S39} (h : mayL xs = true) : Small xs := by
 unfold mayL at h
 rw [Bool.and_eq_true, decide_eq_true_eq] at h
 refine ⟨h.2, fun i hi => ?_⟩
 have h1 := List.all_eq_true.1 h.1 i (List.mem_range.2 hi)
 unfold mayAt at h1
 simp only [Bool.and_eq_true] at h1
 obtain ⟨h2, _, _, h3⟩ := h1
 generalize rd_T39 xs (i : Int) = x at h2 h3
 constructor
 ·unfold nm at h2
  simp only [Bool.and_eq_true, decide_eq_true_eq] at h2
  have := size_list x.f0
  omega
 ·unfold content kept at h3
  split at h3
  ·simp only [Bool.and_eq_true, decide_eq_true_eq] at h3
   omega
  ·split at h3
   ·simp only [Bool.and_eq_true, decide_eq_true_eq] at h3
    omega
   ·split at h3
    ·simp only [Bool.and_eq_true, decide_eq_true_eq] at h3
     omega
    ·exact absurd h3 (by decide)
theorem sizeTo_le {xs : List S39} (h : Small xs) : ∀ i, i ≤ xs.length → sizeTo xs i ≤ 22 + i * 500
 | 0, _ => by simp [sizeTo]
 | i + 1, hi => by
  have ih := sizeTo_le h i (by omega)
  have := h.a i (by omega)
  rw [sizeTo]
  omega
set_option maxHeartbeats 8000000 in
set_option maxRecDepth 100000 in
theorem size_walk (A : Option Addr) (c : Nat) (xs : List S39) (w : World) (g : Nat) (hg : w.heap[g]? = some (.cells #[.slice A xs.length c] 24 (0, 0))) (hr0 : Kd.C k39 w A xs.length xs) (hs : Small xs) :
  Calls Tryd.prog 45 #[.pointer (some ⟨g, 0, none⟩)] w fun e w' => e = .returned (.int .i64 (sizeL xs : Int)) ∧ Drawn0 w w' := by
 have HR0 := qas hr0
 have HS := qas hs
 have HG := qas hg
 have hcg : w.cell? ⟨g, 0, none⟩ = some (.slice A xs.length c) := (blk_cell hg 0).trans rfl
 have hn0 : (0 : Int) ≤ (xs.length : Int) := by omega
 have hn1 : (xs.length : Int) ≤ 6 := by have := hs.n; omega
 clear hr0 hs hg
 go_enter Tryd.func45, Tryd.ntmps45
 go_wp2_with fail
 go_loopw [11, 3] (fun v11 v3 wr => ∃ (i : Nat), v11 = .int .i64 (i : Int) ∧ v3 = .int .i64 (sizeTo xs i : Int) ∧ i ≤ xs.length ∧ Aside0 (Drawn0 w wr)) (fun v11 _ _ => xs.length - (intOf v11).toNat)
 case atStart => exact ⟨0, rfl, rfl, Nat.zero_le _, ⟨Drawn0.refl _⟩⟩
 case round =>
  obtain ⟨i, rfl, rfl, hi, HD⟩ := hrel
  obtain ⟨⟨nd, hnd⟩⟩ := HD.out
  subst hnd
  have hi0 : (0 : Int) ≤ (i : Int) := by omega
  by_cases hlt : i < xs.length
  ·have hlt' : (i : Int) < (xs.length : Int) := by omega
   obtain ⟨ad, A2, c2, e0, hE⟩ := ent_at HR0.out i hlt
   subst e0
   obtain ⟨x, hx⟩ : ∃ x, rd_T39 xs (i : Int) = x := ⟨_, rfl⟩
   have hsm := HS.out.a i hlt
   rw [hx] at hE hsm
   obtain ⟨p, hp⟩ : ∃ p, ad.add (i * 9) = p := ⟨_, rfl⟩
   rw [hp] at hE
   have h0 := hE.h0
   have h6 := hE.h6
   have hsz := sizeTo_le HS.out i hi
   have hst : sizeTo xs (i + 1) = sizeTo xs i + (76 + 2 * (x.f0.size + 26) + x.f6.size) := by rw [sizeTo, hx]
   have HST := qas hst
   obtain ⟨z, hz⟩ : ∃ z, sizeTo xs i = z := ⟨_, rfl⟩
   have HZ := qas hz
   rw [hz] at hsz ⊢
   obtain ⟨hs1, hs2⟩ := hsm
   have e1 : IntKind.i64.wrap ((x.f0.size : Int) + 26) = (x.f0.size : Int) + 26 := by rw [IntKind.wrap_i64]; omega
   have k1 : (x.f0.size : Int) ≤ 8 := by omega
   have k2 : (x.f6.size : Int) ≤ 300 := by omega
   have k3 : (z : Int) ≤ 10000 := by omega
   have k4 : (0 : Int) ≤ (x.f0.size : Int) := by omega
   have k5 : (0 : Int) ≤ (x.f6.size : Int) := by omega
   have k6 : (0 : Int) ≤ (z : Int) := by omega
   clear hE hst hz hs1 hs2
   go_wp2_with fail
   go_quiet ((fail))
   go_wp2_with fail
   have e2 : ((sizeTo xs (i + 1) : Nat) : Int) = (z : Int) + (76 + 2 * ((x.f0.size : Int) + 26) + (x.f6.size : Int)) := by rw [HST.out, HZ.out]; omega
   exact ⟨⟨i + 1, rfl, by rw [e2], by omega, ⟨⟨_, rfl⟩⟩⟩, by show xs.length - ((i : Int) + 1).toNat < xs.length - (i : Int).toNat; omega⟩
  ·have hie : i = xs.length := by omega
   have hnlt : ¬ (i : Int) < (xs.length : Int) := by omega
   subst hie
   go_wp2_with fail
   go_ret
   exact ⟨rfl, ⟨_, rfl⟩⟩
end Go.Proofs.YtneogampbohfnaaDoor.ZipW
/- The walk of zipput's writer: nums. -/
namespace Go.Proofs.YtneogampbohfnaaDoor.ZipW
open Go.RowKit Go.Proofs.YtneogampbohfnaaDoorW.PrintWords Go.Proofs.YtneogampbohfnaaDoorW.PrintLast Go.Proofs.YtneogampbohfnaaDoorW.PrintMore Go.Proofs.YtneogampbohfnaaDoor.ZB Go.Proofs.YtneogampbohfnaaDoor.BldA
set_option linter.unusedVariables false
set_option linter.unusedSimpArgs false
/-- Numbers of n bytes each. -/
def numsL (n : Nat) (xs : List Int) : List Int := xs.flatMap fun x => lowL x n
def numsB (n : Nat) (xs : List Int) : ByteArray := strOfNums (numsL n xs)
theorem numsL_length (n : Nat) : ∀ xs : List Int, (numsL n xs).length = xs.length * n
 | [] => by simp [numsL]
 | x :: xs => by
  have ih := numsL_length n xs
  unfold numsL at ih ⊢
  rw [List.flatMap_cons, List.length_append, ih, lowL_length, List.length_cons, Nat.add_mul]
  omega
theorem numsB_size (n : Nat) (xs : List Int) : (numsB n xs).size = xs.length * n := by unfold numsB; rw [strOfNums_size, numsL_length]
theorem numsB_nil (n : Nat) (s : ByteArray) : s ++ numsB n [] = s := by
 apply Go.WideShapes.bytes_inj
 unfold numsB numsL
 rw [ByteArray.data_append, Array.toList_append, strOfNums_data]
 simp
theorem row_kept {w wr : World} {base b g c n T : Nat} {v : Value} {s : ByteArray} {ys : List Value} (hT : T ≠ 3) (h : BA w base T b v s) (hr : w.ownsRow base 3 1 (.slice (some ⟨g, 0, none⟩) n c) n ys) (hk : Kept w wr (fun k => k = b ∨ v.ownBlock = some k)) : wr.ownsRow base 3 1 (.slice (some ⟨g, 0, none⟩) n c) n ys :=
 own_move hr fun k hk' => by
  obtain ⟨cs, hc⟩ := own_typed hr k hk'
  refine hk.2 k (blk_lt hc) ?_
  rintro (e | e)
  ·obtain ⟨p, _, hb⟩ := h.at_
   rw [e, hb] at hc
   injection hc with hc
   injection hc with _ hc _
   exact hT hc
  ·obtain ⟨cs2, hc2⟩ := own_typed h.row k e
   rw [hc] at hc2
   cases hc2
theorem numsB_next (n : Nat) (xs : List Int) (i : Nat) (h : i < xs.length) : numsB n (xs.take (i + 1)) = numsB n (xs.take i) ++ strOfNums (lowL (rd xs (i : Int)) n) := by
 have ht : xs.take (i + 1) = xs.take i ++ [rd xs (i : Int)] := by
  rw [List.take_succ_eq_append_getElem h]
  unfold rd
  rw [Int.toNat_natCast, List.getD_eq_getElem?_getD, List.getElem?_eq_getElem h]
  rfl
 unfold numsB numsL
 rw [ht, List.flatMap_append, strs_append]
 simp
theorem Wrote.refl {w : World} {base T b : Nat} {v : Value} {s : ByteArray} (h : BA w base T b v s) : Wrote w base T b v s w := ⟨v, h, Below.refl _ _, Kept.refl _ _, fun k hk => .inl hk⟩
theorem Wrote.then {w w1 w2 : World} {base T b : Nat} {v v1 : Value} {s : ByteArray} (hb : Below base w w1) (hk : Kept w w1 (fun k => k = b ∨ v.ownBlock = some k)) (hl : ∀ k, v1.ownBlock = some k → v.ownBlock = some k ∨ w.heap.size ≤ k) (h : Wrote w1 base T b v1 s w2) : Wrote w base T b v s w2 := by
 obtain ⟨v2, h1, h2, h3, h4⟩ := h
 refine ⟨v2, h1, hb.trans h2, hk.then_ h3 fun k hk' => ?_, fun k hk' => ?_⟩
 ·rcases hk' with e | e
  ·exact .inl (.inl e)
  ·rcases hl k e with e2 | e2
   ·exact .inl (.inr e2)
   ·exact .inr e2
 ·rcases h4 k hk' with e | e
  ·exact hl k e
  ·exact .inr (Nat.le_trans hk.1 e)
set_option maxHeartbeats 8000000 in
set_option maxRecDepth 100000 in
theorem nums_walk (w : World) (base b : Nat) (v : Value) (s : ByteArray) (n : Nat) (hn : n ≤ 8) (g c : Nat) (xs : List Int) (h : BA w base 77 b v s) (hr : w.ownsRow base 3 1 (.slice (some ⟨g, 0, none⟩) xs.length c) xs.length (nums .i64 xs)) (hx : xs.length ≤ 10) (hlen : s.size ≤ 1000000) (hbase : base ≤ w.heap.size) :
  Calls Tryd.prog 47 #[.pointer (some ⟨b, 0, none⟩), .int .i64 (n : Int), .slice (some ⟨g, 0, none⟩) xs.length c] w fun e w' => e = .returned (.tuple #[]) ∧ Wrote w base 77 b v (s ++ numsB n xs) w' := by
 have HH := qas h
 have HR := qas hr
 have HL := qas hlen
 have HBB := qas hbase
 have HN := qas hn
 have hn0 : (0 : Int) ≤ (xs.length : Int) := by omega
 have hn1 : (xs.length : Int) ≤ 10 := by omega
 clear h hr hlen hbase hn
 go_enter Tryd.func47, Tryd.ntmps47
 go_wp2_with fail
 go_loopw [10] (fun v10 wr => ∃ (i : Nat) (v1 : Value), v10 = .int .i64 (i : Int) ∧ i ≤ xs.length ∧ Aside0 (BA wr base 77 b v1 (s ++ numsB n (xs.take i))) ∧ Aside0 (Below base w wr) ∧ Aside0 (Kept w wr (fun k => k = b ∨ v.ownBlock = some k)) ∧ Aside0 (∀ k, v1.ownBlock = some k → v.ownBlock = some k ∨ w.heap.size ≤ k)) (fun v10 _ => xs.length - (intOf v10).toNat)
 case atStart => exact ⟨0, v, rfl, Nat.zero_le _, ⟨by rw [List.take_zero, numsB_nil]; exact HH.out⟩, ⟨Below.refl _ _⟩, ⟨Kept.refl _ _⟩, ⟨fun k hk => .inl hk⟩⟩
 case round =>
  obtain ⟨i, v1, rfl, hi, H1, HB, HK, HLo⟩ := hrel
  by_cases hlt : i < xs.length
  ·have hlt' : (i : Int) < (xs.length : Int) := by omega
   have hrow := row_kept (by decide) HH.out HR.out HK.out
   obtain ⟨x, hx2⟩ : ∃ x, rd xs (i : Int) = x := ⟨_, rfl⟩
   have hc := (own_at hrow (i : Int) (by omega) hlt').1
   rw [hx2, Int.toNat_natCast] at hc
   have HX := qas hx2
   have hi0 : (0 : Int) ≤ (i : Int) := by omega
   have HLW : Aside0 (extra_Low.f 10 x (n : Int) = some (strOfNums (lowL x n))) := ⟨low_k x n HN.out (Nat.le_refl _)⟩
   have HSZ : Aside0 ((s ++ numsB n (xs.take i)).size + (strOfNums (lowL x n)).size ≤ 140737488355328) := ⟨by
    have h8 := HN.out
    have hm : i * n ≤ 10 * 8 := Nat.mul_le_mul (by omega) h8
    have ht : (xs.take i).length = i := by rw [List.length_take]; omega
    rw [ByteArray.size_append, numsB_size, ht, strOfNums_size, lowL_length]
    have := HL.out
    omega⟩
   clear hrow hx2
   go_wp2_with fail
   go_region_with (first
    | (go_at_call 80; (with_reducible refine (extra_Low.calls 10 x (n : Int) _ _ HLW.out).mono ?_); rintro e w5 ⟨rfl, hb5⟩; have HB5 := qas (show Below wr.heap.size wr w5 from below_then (qbC (Below.refl wr.heap.size wr)) (Nat.le_refl _) hb5); have HA5 := qas (H1.out.below HB5.out); have HZ5 := qas (show base ≤ w5.heap.size by have := HB5.out.size; have := HK.out.1; have := HBB.out; omega); clear hb5)
    | (go_at_call 46; (with_reducible refine (write_any w5 base 77 b v1 (s ++ numsB n (xs.take i)) (strOfNums (lowL x n)) lies77 HA5.out HSZ.out HZ5.out).mono ?_); rintro e w6 ⟨rfl, v2, k1, k2, k3, k4⟩; have K1 := qas k1; have K2 := qas k2; have K3 := qas k3; have K4 := qas k4; clear k1 k2 k3 k4))
   go_wp2_with fail
   have e1 : s ++ numsB n (xs.take i) ++ strOfNums (lowL x n) = s ++ numsB n (xs.take (i + 1)) := by rw [numsB_next n xs i hlt, HX.out, ByteArray.append_assoc]
   have k1 := K1.out
   rw [e1] at k1
   refine ⟨⟨i + 1, v2, rfl, by omega, ⟨k1⟩, ⟨(below_then HB.out (by have := HK.out.1; have := HBB.out; omega) HB5.out).trans K2.out⟩, ⟨?_⟩, ⟨fun k hk => ?_⟩⟩, by show xs.length - ((i : Int) + 1).toNat < xs.length - (i : Int).toNat; omega⟩
   ·refine (HK.out.below HB5.out).then_ K3.out fun k hk => ?_
    rcases hk with e | e
    ·exact .inl (.inl e)
    ·rcases HLo.out k e with e2 | e2
     ·exact .inl (.inr e2)
     ·exact .inr e2
   ·rcases K4.out k hk with e | e
    ·exact HLo.out k e
    ·exact .inr (by have := HB5.out.size; have := HK.out.1; omega)
  ·have hie : i = xs.length := by omega
   have hnlt : ¬ (i : Int) < (xs.length : Int) := by omega
   subst hie
   go_wp2_with fail
   first | go_end0 | ((try simp only [Exit.inBlock, Exit.then]); refine bodyPost_ret (results_none rfl _ _ _) rfl ?_)
   have h1 := H1.out
   rw [List.take_length] at h1
   exact ⟨rfl, v1, h1, HB.out, HK.out, HLo.out⟩
end Go.Proofs.YtneogampbohfnaaDoor.ZipW
/- The walks of zipput's writer: common, names. -/
namespace Go.Proofs.YtneogampbohfnaaDoor.ZipW
open Go.RowKit Go.Proofs.YtneogampbohfnaaDoorW.PrintWords Go.Proofs.YtneogampbohfnaaDoorW.PrintLast Go.Proofs.YtneogampbohfnaaDoorW.PrintMore Go.Proofs.YtneogampbohfnaaDoor.ZB Go.Proofs.YtneogampbohfnaaDoor.BldA
set_option linter.unusedVariables false
set_option linter.unusedSimpArgs false
theorem below_of {w w' : World} {base T b : Nat} {v : Value} {s : ByteArray} (h : Wrote w base T b v s w') : Below base w w' := by obtain ⟨v1, h1, h2, h3, h4⟩ := h; exact h2
theorem nums_lit (w : World) (base b : Nat) (v : Value) (s : ByteArray) (n : Nat) (hn : n ≤ 8) (xs : List Int) (m : Nat) (cs : Array Value) (hm : xs.length = m) (hcs : cs = (nums .i64 xs).toArray) (h : BA w base 77 b v s) (hx : m ≤ 10) (hlen : s.size ≤ 1000000) (hbase : base ≤ w.heap.size) :
  Calls Tryd.prog 47 #[.pointer (some ⟨b, 0, none⟩), .int .i64 (n : Int), .slice (some ⟨w.heap.size, 0, none⟩) m m] (w.alloc (.cells cs 3)) fun e w' => e = .returned (.tuple #[]) ∧ Wrote w base 77 b v (s ++ numsB n xs) w' := by
 subst hm hcs
 have hb : Below w.heap.size w (w.alloc (.cells (nums .i64 xs).toArray 3)) := qbA (Below.refl _ _) _
 refine (nums_walk (w.alloc (.cells (nums .i64 xs).toArray 3)) base b v s n hn w.heap.size xs.length xs (h.below hb) (own_lit w base 3 .i64 xs hbase (by omega)) hx hlen (by have := hb.size; omega)).mono fun e w' ⟨he, hw⟩ => ⟨he, ?_⟩
 exact Wrote.then ((Below.refl base w).alloc hbase _) (Kept.alloc (Kept.refl _ _) _) (fun k hk => .inl hk) hw
theorem nums_lit_drew (w : World) (base b : Nat) (v : Value) (s : ByteArray) (n : Nat) (hn : n ≤ 8) (xs : List Int) (m : Nat) (cs : Array Value) (hm : xs.length = m) (hcs : cs = (nums .i64 xs).toArray) (h : BA w base 77 b v s) (hx : m ≤ 10) (hlen : s.size ≤ 1000000) (hbase : base ≤ w.heap.size) :
  Calls Tryd.prog 47 #[.pointer (some ⟨b, 0, none⟩), .int .i64 (n : Int), .slice (some ⟨w.heap.size, 0, none⟩) m m] (w.alloc (.cells cs 3)).drew fun e w' => e = .returned (.tuple #[]) ∧ Wrote w base 77 b v (s ++ numsB n xs) w' := by
 subst hm hcs
 have hb : Below w.heap.size w (w.alloc (.cells (nums .i64 xs).toArray 3)).drew := (qbA (Below.refl _ _) _).drew
 refine (nums_walk (w.alloc (.cells (nums .i64 xs).toArray 3)).drew base b v s n hn w.heap.size xs.length xs (h.below hb) (own_drew (own_lit w base 3 .i64 xs hbase (by omega))) hx hlen (by have := hb.size; omega)).mono fun e w' ⟨he, hw⟩ => ⟨he, ?_⟩
 exact Wrote.then ((Below.refl base w).alloc hbase _).drew (Kept.alloc (Kept.refl _ _) _).drew (fun k hk => .inl hk) hw
/-- What both parts of an entry have. -/
def commonB (x : S39) : ByteArray := numsB 2 [20, 0, x.f5, 0, 0] ++ numsB 4 [x.f8, (x.f6.size : Int), x.f7] ++ numsB 2 [(x.f0.size : Int), 26]
theorem commonB_size (x : S39) : (commonB x).size = 26 := by
 unfold commonB
 rw [ByteArray.size_append, ByteArray.size_append, numsB_size, numsB_size, numsB_size]
 rfl
set_option maxHeartbeats 8000000 in
set_option maxRecDepth 100000 in
theorem common_walk (w0 w : World) (b : Nat) (v : Value) (s : ByteArray) (ad : Addr) (x : S39) (A2 : Option Addr) (c2 : Nat) (hE : Ent w0 ad x A2 c2) (hB : Below w0.heap.size w0 w) (h : BA w w0.heap.size 77 b v s) (hlen : s.size ≤ 900000) (hs0 : x.f0.size ≤ 1000) (hs6 : x.f6.size ≤ 100000) :
  Calls Tryd.prog 48 #[.pointer (some ⟨b, 0, none⟩), .pointer (some ad)] w fun e w' => e = .returned (.tuple #[]) ∧ Wrote w w0.heap.size 77 b v (s ++ commonB x) w' := by
 have HH := qas h
 have HE := qas hE
 have HB := qas hB
 have HL := qas hlen
 have HBB := qas hB.size
 have k0 : (x.f0.size : Int) ≤ 1000 := by omega
 have k6 : (x.f6.size : Int) ≤ 100000 := by omega
 have k1 : (0 : Int) ≤ (x.f0.size : Int) := by omega
 have k7 : (0 : Int) ≤ (x.f6.size : Int) := by omega
 have hc5 : w.cell? ⟨ad.block, ad.off + 5, none⟩ = some (.int .i64 x.f5) := pw_cell_below hB hE.h5
 clear h hE hB hlen
 go_enter Tryd.func48, Tryd.ntmps48
 go_wp2_with (go_at_call 47; (refine (nums_lit w w0.heap.size b v s 2 (by decide) [20, 0, x.f5, 0, 0] 5 _ rfl rfl HH.out (by decide) (by have := HL.out; omega) HBB.out).mono ?_); rintro e w1 ⟨rfl, v1, a1, a2, a3, a4⟩; have A1 := qas a1; have A2' := qas a2; have A3 := qas a3; have A4 := qas a4; clear a1 a2 a3 a4)
 have HW1 := qas (HB.out.trans A2'.out)
 have hH := qas (show ∀ W, Below w0.heap.size w0 W → W.cell? ⟨ad.block, ad.off + 6, none⟩ = some (.string x.f6) ∧ W.cell? ⟨ad.block, ad.off + 7, none⟩ = some (.int .i64 x.f7) ∧ W.cell? ⟨ad.block, ad.off + 8, none⟩ = some (.int .i64 x.f8) from fun W h => ⟨pw_cell_below h HE.out.h6, pw_cell_below h HE.out.h7, pw_cell_below h HE.out.h8⟩)
 refine wp_region_held_drew (S := (fun W => W.cell? ⟨ad.block, ad.off + 6, none⟩ = some (.string x.f6) ∧ W.cell? ⟨ad.block, ad.off + 7, none⟩ = some (.int .i64 x.f7) ∧ W.cell? ⟨ad.block, ad.off + 8, none⟩ = some (.int .i64 x.f8))) (by kernel_rfl) ?s1_ (fun hHeld => ?r1_)
 case s1_ => exact hH.out _ (by with_reducible repeat (first | exact HB2.out | exact HW1.out | apply qbA | apply qbB | apply qbC))
 refine wpAnyH_take (i := 0) (oi := { dst := some 11, op := Go.Op.move (Go.Operand.tmp 0), type := 117, pos := "zipput.go:88", after := #[], guard := none }) (v := ?v2_) rfl (by kernel_rfl) (by kernel_rfl) (by kernel_rfl) (fun _ _ _ h => h) (Or.inl ⟨by rfl, ?y2_⟩) hHeld ?r2_
 case y2_ => (intro w_ hSw_; (try dsimp only at hSw_); go_simp; try with_reducible rfl)
 (try simp only [Act.put, qsA, qsB, qsC])
 refine wpAnyH_take (i := 1) (oi := { dst := some 12, op := Go.Op.move (Go.Operand.tmp 1), type := 41, pos := "zipput.go:88", after := #[], guard := none }) (v := ?v3_) rfl (by kernel_rfl) (by kernel_rfl) (by kernel_rfl) (fun _ _ _ h => h) (Or.inl ⟨by rfl, ?y3_⟩) hHeld ?r3_
 case y3_ => (intro w_ hSw_; (try dsimp only at hSw_); go_simp; try with_reducible rfl)
 (try simp only [Act.put, qsA, qsB, qsC])
 refine wpAnyH_take (i := 2) (oi := { dst := some 13, op := Go.Op.nilCheck (Go.Operand.tmp 12), type := 0, pos := "zipput.go:88", after := #[{ on := 1, ground := Go.Ground.data }], guard := none }) (v := ?v4_) rfl (by kernel_rfl) (by kernel_rfl) (by kernel_rfl) (fun _ _ _ h => h) (Or.inl ⟨by rfl, ?y4_⟩) hHeld ?r4_
 case y4_ => (intro w_ hSw_; (try dsimp only at hSw_); go_simp; try with_reducible rfl)
 (try simp only [Act.put, qsA, qsB, qsC])
 refine wpAnyH_take (i := 3) (oi := { dst := some 14, op := Go.Op.fieldAddr 39 (Go.Operand.tmp 13) 8, type := 0, pos := "zipput.go:88", after := #[{ on := 2, ground := Go.Ground.data }], guard := none }) (v := ?v5_) rfl (by kernel_rfl) (by kernel_rfl) (by kernel_rfl) (fun _ _ _ h => h) (Or.inl ⟨by rfl, ?y5_⟩) hHeld ?r5_
 case y5_ => (intro w_ hSw_; (try dsimp only at hSw_); go_simp; try with_reducible rfl)
 (try simp only [Act.put, qsA, qsB, qsC])
 refine wpAnyH_take (i := 4) (oi := { dst := some 15, op := Go.Op.load 3 (Go.Operand.tmp 14), type := 3, pos := "zipput.go:88", after := #[{ on := 3, ground := Go.Ground.data }], guard := none }) (v := ?v6_) rfl (by kernel_rfl) (by kernel_rfl) (by kernel_rfl) (fun _ _ _ h => h) (Or.inl ⟨by rfl, ?y6_⟩) hHeld ?r6_
 case y6_ => (intro w_ hSw_; (try dsimp only at hSw_); go_simp; try with_reducible rfl)
 (try simp only [Act.put, qsA, qsB, qsC])
 refine wpAnyH_take (i := 5) (oi := { dst := some 16, op := Go.Op.move (Go.Operand.tmp 1), type := 41, pos := "zipput.go:88", after := #[], guard := none }) (v := ?v7_) rfl (by kernel_rfl) (by kernel_rfl) (by kernel_rfl) (fun _ _ _ h => h) (Or.inl ⟨by rfl, ?y7_⟩) hHeld ?r7_
 case y7_ => (intro w_ hSw_; (try dsimp only at hSw_); go_simp; try with_reducible rfl)
 (try simp only [Act.put, qsA, qsB, qsC])
 refine wpAnyH_take (i := 6) (oi := { dst := some 17, op := Go.Op.nilCheck (Go.Operand.tmp 16), type := 0, pos := "zipput.go:88", after := #[{ on := 5, ground := Go.Ground.data }], guard := none }) (v := ?v8_) rfl (by kernel_rfl) (by kernel_rfl) (by kernel_rfl) (fun _ _ _ h => h) (Or.inl ⟨by rfl, ?y8_⟩) hHeld ?r8_
 case y8_ => (intro w_ hSw_; (try dsimp only at hSw_); go_simp; try with_reducible rfl)
 (try simp only [Act.put, qsA, qsB, qsC])
 refine wpAnyH_take (i := 7) (oi := { dst := some 18, op := Go.Op.fieldAddr 39 (Go.Operand.tmp 17) 6, type := 0, pos := "zipput.go:88", after := #[{ on := 6, ground := Go.Ground.data }], guard := none }) (v := ?v9_) rfl (by kernel_rfl) (by kernel_rfl) (by kernel_rfl) (fun _ _ _ h => h) (Or.inl ⟨by rfl, ?y9_⟩) hHeld ?r9_
 case y9_ => (intro w_ hSw_; (try dsimp only at hSw_); go_simp; try with_reducible rfl)
 (try simp only [Act.put, qsA, qsB, qsC])
 refine wpAnyH_take (i := 8) (oi := { dst := some 19, op := Go.Op.load 9 (Go.Operand.tmp 18), type := 9, pos := "zipput.go:88", after := #[{ on := 7, ground := Go.Ground.data }], guard := none }) (v := ?v10_) rfl (by kernel_rfl) (by kernel_rfl) (by kernel_rfl) (fun _ _ _ h => h) (Or.inl ⟨by rfl, ?y10_⟩) hHeld ?r10_
 case y10_ => (intro w_ hSw_; (try dsimp only at hSw_); go_simp; try with_reducible rfl)
 (try simp only [Act.put, qsA, qsB, qsC])
 refine wpAnyH_take (i := 9) (oi := { dst := some 20, op := Go.Op.call { callee := Go.Callee.builtin Go.Builtin.len, args := #[Go.Operand.tmp 19], argTypes := #[9] }, type := 3, pos := "zipput.go:88", after := #[{ on := 8, ground := Go.Ground.data }], guard := none }) (v := ?v11_) rfl (by kernel_rfl) (by kernel_rfl) (by kernel_rfl) (fun _ _ _ h => h) (Or.inl ⟨by rfl, ?y11_⟩) hHeld ?r11_
 case y11_ => (intro w_ hSw_; (try dsimp only at hSw_); go_simp; try with_reducible rfl)
 (try simp only [Act.put, qsA, qsB, qsC])
 refine wpAnyH_take (i := 10) (oi := { dst := some 21, op := Go.Op.move (Go.Operand.tmp 1), type := 41, pos := "zipput.go:88", after := #[], guard := none }) (v := ?v12_) rfl (by kernel_rfl) (by kernel_rfl) (by kernel_rfl) (fun _ _ _ h => h) (Or.inl ⟨by rfl, ?y12_⟩) hHeld ?r12_
 case y12_ => (intro w_ hSw_; (try dsimp only at hSw_); go_simp; try with_reducible rfl)
 (try simp only [Act.put, qsA, qsB, qsC])
 refine wpAnyH_take (i := 11) (oi := { dst := some 22, op := Go.Op.nilCheck (Go.Operand.tmp 21), type := 0, pos := "zipput.go:88", after := #[{ on := 10, ground := Go.Ground.data }], guard := none }) (v := ?v13_) rfl (by kernel_rfl) (by kernel_rfl) (by kernel_rfl) (fun _ _ _ h => h) (Or.inl ⟨by rfl, ?y13_⟩) hHeld ?r13_
 case y13_ => (intro w_ hSw_; (try dsimp only at hSw_); go_simp; try with_reducible rfl)
 (try simp only [Act.put, qsA, qsB, qsC])
 refine wpAnyH_take (i := 12) (oi := { dst := some 23, op := Go.Op.fieldAddr 39 (Go.Operand.tmp 22) 7, type := 0, pos := "zipput.go:88", after := #[{ on := 11, ground := Go.Ground.data }], guard := none }) (v := ?v14_) rfl (by kernel_rfl) (by kernel_rfl) (by kernel_rfl) (fun _ _ _ h => h) (Or.inl ⟨by rfl, ?y14_⟩) hHeld ?r14_
 case y14_ => (intro w_ hSw_; (try dsimp only at hSw_); go_simp; try with_reducible rfl)
 (try simp only [Act.put, qsA, qsB, qsC])
 refine wpAnyH_take (i := 13) (oi := { dst := some 24, op := Go.Op.load 3 (Go.Operand.tmp 23), type := 3, pos := "zipput.go:88", after := #[{ on := 12, ground := Go.Ground.data }], guard := none }) (v := ?v15_) rfl (by kernel_rfl) (by kernel_rfl) (by kernel_rfl) (fun _ _ _ h => h) (Or.inl ⟨by rfl, ?y15_⟩) hHeld ?r15_
 case y15_ => (intro w_ hSw_; (try dsimp only at hSw_); go_simp; try with_reducible rfl)
 (try simp only [Act.put, qsA, qsB, qsC])
 refine wpAnyH_ready (rs := [14]) (by kernel_rfl) (by simp) ?_
 refine AllReadyH.cons (o := { dst := some 25, op := Go.Op.buildSlice 37 3 #[(0, Go.Operand.tmp 15), (1, Go.Operand.tmp 20), (2, Go.Operand.tmp 24)], type := 37, pos := "zipput.go:88", after := #[{ on := 4, ground := Go.Ground.data }, { on := 9, ground := Go.Ground.data }, { on := 13, ground := Go.Ground.data }], guard := none }) rfl (fun K hK => ?_) AllReadyH.nil
 go_simp
 skip
 try go_wp2_with fail
 clear hHeld
 refine hK.out _ _ ?s16_ (fun hHeld => ?r16_)
 case s16_ => exact hH.out _ (by with_reducible repeat (first | exact HB2.out | exact HW1.out | apply qbA | apply qbB | apply qbC))
 clear hK K
 (try simp only [Act.put, qsA, qsB, qsC])
 refine wpAnyH_ready (rs := [15]) (by kernel_rfl) (by simp) ?_
 refine AllReadyH.cons (o := { dst := some 26, op := Go.Op.call { callee := Go.Callee.value (Go.Operand.func 47), args := #[Go.Operand.tmp 11, Go.Operand.const (Go.Value.int Go.IntKind.i64 4), Go.Operand.tmp 25], argTypes := #[117, 3, 37] }, type := 0, pos := "zipput.go:88", after := #[{ on := 0, ground := Go.Ground.data }, { on := 14, ground := Go.Ground.data }], guard := none }) rfl (fun K hK => ?_) AllReadyH.nil
 go_simp
 (go_at_call 47; (refine (nums_lit_drew w1 w0.heap.size b v1 _ 4 (by decide) [x.f8, (x.f6.size : Int), x.f7] 3 _ rfl rfl A1.out (by decide) (by have := HL.out; rw [ByteArray.size_append, numsB_size]; simp only [List.length_cons, List.length_nil]; omega) HW1.out.size).mono ?_); rintro e w2 ⟨rfl, hw2⟩; have HW2 := qas (Wrote.then A2'.out A3.out A4.out hw2); clear hw2; have HB2 := qas (HB.out.trans (below_of HW2.out)))
 try go_wp2_with fail
 clear hHeld
 refine hK.out _ _ ?s17_ (fun hHeld => ?r17_)
 case s17_ => exact hH.out _ (by with_reducible repeat (first | exact HB2.out | exact HW1.out | apply qbA | apply qbB | apply qbC))
 clear hK K
 (try simp only [Act.put, qsA, qsB, qsC])
 refine wpAnyH_done (by kernel_rfl) ?_ _
 have hc0 := pw_cell_below HB2.out HE.out.h0
 obtain ⟨v2, b1, b2, b3, b4⟩ := HW2.out
 have B1 := qas b1
 have B2 := qas b2
 have B3 := qas b3
 have B4 := qas b4
 clear b1 b2 b3 b4
 go_wp2_with (go_at_call 47; (refine (nums_lit w2 w0.heap.size b v2 _ 2 (by decide) [(x.f0.size : Int), 26] 2 _ rfl rfl B1.out (by decide) (by have := HL.out; rw [ByteArray.size_append, ByteArray.size_append, numsB_size, numsB_size]; simp only [List.length_cons, List.length_nil]; omega) HB2.out.size).mono ?_); rintro e w3 ⟨rfl, hw3⟩; have HW3 := qas hw3; clear hw3)
 go_end0
 have h := Wrote.then B2.out B3.out B4.out HW3.out
 refine ⟨rfl, ?_⟩
 unfold commonB
 rw [← ByteArray.append_assoc, ← ByteArray.append_assoc]
 exact h
end Go.Proofs.YtneogampbohfnaaDoor.ZipW
/- The walk of zipput's writer: names. -/
namespace Go.Proofs.YtneogampbohfnaaDoor.ZipW
open Go.RowKit Go.Proofs.YtneogampbohfnaaDoorW.PrintWords Go.Proofs.YtneogampbohfnaaDoorW.PrintLast Go.Proofs.YtneogampbohfnaaDoorW.PrintMore Go.Proofs.YtneogampbohfnaaDoor.ZB Go.Proofs.YtneogampbohfnaaDoor.BldA
set_option linter.unusedVariables false
set_option linter.unusedSimpArgs false
/-- What a second part has behind its numbers. -/
def headB (x : S39) : ByteArray := if mayE x.f2 x.f3 x.f4 = true then strOfNums (putL x.f2 x.f3 x.f4 x.f1) else ⟨#[]⟩
def namesB (x : S39) : ByteArray := x.f0 ++ headB x
theorem put_head (x : S39) : extra_Put.f 40 x.f0 x.f1 x.f2 x.f3 x.f4 x.f5 x.f6 x.f7 x.f8 = some (headB x, if mayE x.f2 x.f3 x.f4 = true then 0 else 1200) := by
 rw [put_k x.f0 x.f1 x.f2 x.f3 x.f4 x.f5 x.f6 x.f7 x.f8 (Nat.le_refl _)]
 unfold headB
 split <;> rfl
set_option maxHeartbeats 8000000 in
set_option maxRecDepth 100000 in
theorem names_walk (w0 w : World) (b : Nat) (v : Value) (s : ByteArray) (ad : Addr) (x : S39) (A2 : Option Addr) (c2 : Nat) (hE : Ent w0 ad x A2 c2) (hB : Below w0.heap.size w0 w) (h : BA w w0.heap.size 77 b v s) (hlen : s.size ≤ 900000) (hs0 : (namesB x).size ≤ 100000) :
  Calls Tryd.prog 50 #[.pointer (some ⟨b, 0, none⟩), .pointer (some ad)] w fun e w' => e = .returned (.tuple #[]) ∧ Wrote w w0.heap.size 77 b v (s ++ namesB x) w' := by
 have HH := qas h
 have HE := qas hE
 have HB := qas hB
 have HL := qas hlen
 have HBB := qas hB.size
 have e0 := pw_cell_below hB hE.h0
 have e1 := pw_cell_below hB hE.h1
 have e2 := pw_cell_below hB hE.h2
 have e3 := pw_cell_below hB hE.h3
 have e4 := pw_cell_below hB hE.h4
 have e5 := pw_cell_below hB hE.h5
 have e6 := pw_cell_below hB hE.h6
 have e7 := pw_cell_below hB hE.h7
 have e8 := pw_cell_below hB hE.h8
 have HR := qas (Kd.C_below hE.hr hB)
 have HC := qas hE.hl
 have hu39 := Tryd.underlying39
 have HS := qas hs0
 have hcat : ¬ (9223372036854775807 < x.f0.size + (headB x).size) := by
  unfold namesB at hs0
  rw [ByteArray.size_append] at hs0
  omega
 clear h hE hB hlen hs0
 obtain ⟨er, her0⟩ : ∃ er : Int, extra_Put.f 40 x.f0 x.f1 x.f2 x.f3 x.f4 x.f5 x.f6 x.f7 x.f8 = some (headB x, er) := ⟨_, put_head x⟩
 have her := qas her0
 clear her0
 go_enter Tryd.func50, Tryd.ntmps50
 go_wp2_with (go_at_call 81; (refine (extra_Put.calls 40 x.f0 x.f1 A2 c2 x.f2 x.f3 x.f4 x.f5 x.f6 x.f7 x.f8 _ _ w HR.out HC.out her.out).mono ?_); rintro e w1 ⟨rfl, hb1⟩; have HB1 := qas hb1; clear hb1)
 have HB2 := qas (below_then HB.out HB.out.size HB1.out)
 have HH2 := qas (HH.out.below HB1.out)
 have hH := qas (show ∀ W, Below w0.heap.size w0 W → W.cell? ad = some (.string x.f0) from fun W h => pw_cell_below h HE.out.h0)
 refine wp_region_held_drew (S := (fun W => W.cell? ad = some (.string x.f0))) (by kernel_rfl) ?s1_ (fun hHeld => ?r1_)
 case s1_ => exact hH.out _ (by with_reducible repeat (first | exact HB4.out | exact HB3.out | exact HB2.out | apply qbA | apply qbB | apply qbC))
 refine wpAnyH_take (i := 0) (oi := { dst := some 13, op := Go.Op.move (Go.Operand.tmp 0), type := 117, pos := "zipput.go:95", after := #[], guard := none }) (v := ?v2_) rfl (by kernel_rfl) (by kernel_rfl) (by kernel_rfl) (fun _ _ _ h => h) (Or.inl ⟨by rfl, ?y2_⟩) hHeld ?r2_
 case y2_ => (intro w_ hSw_; (try dsimp only at hSw_); go_simp; try with_reducible rfl)
 (try simp only [Act.put, qsA, qsB, qsC])
 refine wpAnyH_take (i := 1) (oi := { dst := some 14, op := Go.Op.nilCheck (Go.Operand.tmp 13), type := 0, pos := "zipput.go:95", after := #[{ on := 0, ground := Go.Ground.data }], guard := none }) (v := ?v3_) rfl (by kernel_rfl) (by kernel_rfl) (by kernel_rfl) (fun _ _ _ h => h) (Or.inl ⟨by rfl, ?y3_⟩) hHeld ?r3_
 case y3_ => (intro w_ hSw_; (try dsimp only at hSw_); go_simp; try with_reducible rfl)
 (try simp only [Act.put, qsA, qsB, qsC])
 refine wpAnyH_take (i := 2) (oi := { dst := some 15, op := Go.Op.fieldAddr 77 (Go.Operand.tmp 14) 0, type := 0, pos := "zipput.go:95", after := #[{ on := 1, ground := Go.Ground.data }], guard := none }) (v := ?v4_) rfl (by kernel_rfl) (by kernel_rfl) (by kernel_rfl) (fun _ _ _ h => h) (Or.inl ⟨by rfl, ?y4_⟩) hHeld ?r4_
 case y4_ => (intro w_ hSw_; (try dsimp only at hSw_); go_simp; try with_reducible rfl)
 (try simp only [Act.put, qsA, qsB, qsC])
 refine wpAnyH_take (i := 3) (oi := { dst := some 16, op := Go.Op.move (Go.Operand.tmp 1), type := 41, pos := "zipput.go:95", after := #[], guard := none }) (v := ?v5_) rfl (by kernel_rfl) (by kernel_rfl) (by kernel_rfl) (fun _ _ _ h => h) (Or.inl ⟨by rfl, ?y5_⟩) hHeld ?r5_
 case y5_ => (intro w_ hSw_; (try dsimp only at hSw_); go_simp; try with_reducible rfl)
 (try simp only [Act.put, qsA, qsB, qsC])
 refine wpAnyH_take (i := 4) (oi := { dst := some 17, op := Go.Op.nilCheck (Go.Operand.tmp 16), type := 0, pos := "zipput.go:95", after := #[{ on := 3, ground := Go.Ground.data }], guard := none }) (v := ?v6_) rfl (by kernel_rfl) (by kernel_rfl) (by kernel_rfl) (fun _ _ _ h => h) (Or.inl ⟨by rfl, ?y6_⟩) hHeld ?r6_
 case y6_ => (intro w_ hSw_; (try dsimp only at hSw_); go_simp; try with_reducible rfl)
 (try simp only [Act.put, qsA, qsB, qsC])
 refine wpAnyH_take (i := 5) (oi := { dst := some 18, op := Go.Op.fieldAddr 39 (Go.Operand.tmp 17) 0, type := 0, pos := "zipput.go:95", after := #[{ on := 4, ground := Go.Ground.data }], guard := none }) (v := ?v7_) rfl (by kernel_rfl) (by kernel_rfl) (by kernel_rfl) (fun _ _ _ h => h) (Or.inl ⟨by rfl, ?y7_⟩) hHeld ?r7_
 case y7_ => (intro w_ hSw_; (try dsimp only at hSw_); go_simp; try with_reducible rfl)
 (try simp only [Act.put, qsA, qsB, qsC])
 refine wpAnyH_take (i := 6) (oi := { dst := some 19, op := Go.Op.load 9 (Go.Operand.tmp 18), type := 9, pos := "zipput.go:95", after := #[{ on := 5, ground := Go.Ground.data }], guard := none }) (v := ?v8_) rfl (by kernel_rfl) (by kernel_rfl) (by kernel_rfl) (fun _ _ _ h => h) (Or.inl ⟨by rfl, ?y8_⟩) hHeld ?r8_
 case y8_ => (intro w_ hSw_; (try dsimp only at hSw_); go_simp; try with_reducible rfl)
 (try simp only [Act.put, qsA, qsB, qsC])
 refine wpAnyH_take (i := 7) (oi := { dst := some 20, op := Go.Op.move (Go.Operand.tmp 4), type := 9, pos := "zipput.go:95", after := #[], guard := none }) (v := ?v9_) rfl (by kernel_rfl) (by kernel_rfl) (by kernel_rfl) (fun _ _ _ h => h) (Or.inl ⟨by rfl, ?y9_⟩) hHeld ?r9_
 case y9_ => (intro w_ hSw_; (try dsimp only at hSw_); go_simp; try with_reducible rfl)
 (try simp only [Act.put, qsA, qsB, qsC])
 refine wpAnyH_take (i := 8) (oi := { dst := some 21, op := Go.Op.binOp Go.BinOp.add 9 (Go.Operand.tmp 19) (Go.Operand.tmp 20) 9, type := 9, pos := "zipput.go:95", after := #[{ on := 6, ground := Go.Ground.data }, { on := 7, ground := Go.Ground.data }], guard := none }) (v := ?v10_) rfl (by kernel_rfl) (by kernel_rfl) (by kernel_rfl) (fun _ _ _ h => h) (Or.inl ⟨by rfl, ?y10_⟩) hHeld ?r10_
 case y10_ => (intro w_ hSw_; (try dsimp only at hSw_); go_simp; try with_reducible rfl)
 (try simp only [Act.put, qsA, qsB, qsC])
 refine wpAnyH_ready (rs := [9]) (by kernel_rfl) (by simp) ?_
 refine AllReadyH.cons (o := { dst := some 22, op := Go.Op.call { callee := Go.Callee.value (Go.Operand.func 46), args := #[Go.Operand.tmp 15, Go.Operand.tmp 21], argTypes := #[75, 9] }, type := 81, pos := "zipput.go:95", after := #[{ on := 2, ground := Go.Ground.data }, { on := 8, ground := Go.Ground.data }], guard := none }) rfl (fun K hK => ?_) AllReadyH.nil
 go_simp
 (go_at_call 46; (refine (write_any w1.drew w0.heap.size 77 b v s (x.f0 ++ headB x) lies77 (HH.out.below HB1.out.drew) (by have := HL.out; have h9 := HS.out; unfold namesB at h9; omega) HB2.out.drew.size).mono ?_); rintro e w3 ⟨rfl, hw3⟩; have HW3 := qas hw3; have HB3 := qas (HB2.out.drew.trans (below_of hw3)); clear hw3)
 try go_wp2_with fail
 clear hHeld
 refine hK.out _ _ ?s11_ (fun hHeld => ?r11_)
 case s11_ => exact hH.out _ (by with_reducible repeat (first | exact HB4.out | exact HB3.out | exact HB2.out | apply qbA | apply qbB | apply qbC))
 clear hK K
 (try simp only [Act.put, qsA, qsB, qsC])
 refine wpAnyH_done (by kernel_rfl) ?_ _
 go_wp2_with fail
 go_end0
 exact ⟨rfl, Wrote.then (below_then (Below.refl _ _) HBB.out HB1.out.drew) (Kept.below (Kept.refl _ _) HB1.out.drew) (fun k hk => .inl hk) HW3.out⟩
end Go.Proofs.YtneogampbohfnaaDoor.ZipW
/- Two writers side by side (for zipput.Put). -/
namespace Go.Proofs.YtneogampbohfnaaDoor.ZipW
open Go.RowKit Go.Proofs.YtneogampbohfnaaDoorW.PrintWords Go.Proofs.YtneogampbohfnaaDoorW.PrintLast Go.Proofs.YtneogampbohfnaaDoorW.PrintMore Go.Proofs.YtneogampbohfnaaDoor.ZB Go.Proofs.YtneogampbohfnaaDoor.BldA
set_option linter.unusedVariables false
set_option linter.unusedSimpArgs false
/-- Two writers at two blocks, their rows apart. -/
structure Two (W : World) (base b1 : Nat) (v1 : Value) (s1 : ByteArray) (b2 : Nat) (v2 : Value) (s2 : ByteArray) : Prop where
 h1 : BA W base 77 b1 v1 s1
 h2 : BA W base 77 b2 v2 s2
 ne : b1 ≠ b2
 ap : ∀ k, v1.ownBlock = some k → v2.ownBlock ≠ some k
theorem ba_row_ne {W : World} {base b c : Nat} {v u : Value} {s t : ByteArray} (h : BA W base 77 b v s) (g : BA W base 77 c u t) : v.ownBlock ≠ some c := by
 intro e
 obtain ⟨cs, hc⟩ := own_typed h.row c e
 obtain ⟨p, _, hb⟩ := g.at_
 rw [hb] at hc
 injection hc with hc
 injection hc with _ hc _
 exact absurd hc (by decide)
theorem Two.swap {W : World} {base b1 b2 : Nat} {v1 v2 : Value} {s1 s2 : ByteArray} (h : Two W base b1 v1 s1 b2 v2 s2) : Two W base b2 v2 s2 b1 v1 s1 := ⟨h.h2, h.h1, h.ne.symm, fun k e2 e1 => h.ap k e1 e2⟩
theorem Two.below {W W1 : World} {base b1 b2 : Nat} {v1 v2 : Value} {s1 s2 : ByteArray} (h : Two W base b1 v1 s1 b2 v2 s2) (hb : Below W.heap.size W W1) : Two W1 base b1 v1 s1 b2 v2 s2 := ⟨h.h1.below hb, h.h2.below hb, h.ne, h.ap⟩
/-- The first one is written to. -/
theorem Two.first {W W1 : World} {base b1 b2 : Nat} {v1 v2 : Value} {s1 s2 s : ByteArray} (h : Two W base b1 v1 s1 b2 v2 s2) (hw : Wrote W base 77 b1 v1 s W1) : ∃ v, Two W1 base b1 v s b2 v2 s2 ∧ Below base W W1 := by
 obtain ⟨v, k1, k2, k3, k4⟩ := hw
 refine ⟨v, ⟨k1, ?_, h.ne, ?_⟩, k2⟩
 ·refine h.h2.move (k3.2 b2 h.h2.lt ?_) fun k hk => k3.2 k (h.h2.row_lt k hk) ?_
  ·rintro (e | e)
   ·exact h.ne e.symm
   ·exact ba_row_ne h.h1 h.h2 e
  ·rintro (e | e)
   ·subst e
    exact ba_row_ne h.h2 h.h1 hk
   ·exact h.ap k e hk
 ·intro k e1 e2
  rcases k4 k e1 with e | e
  ·exact h.ap k e e2
  ·exact absurd (h.h2.row_lt k e2) (by omega)
/-- The second one is written to. -/
theorem Two.second {W W1 : World} {base b1 b2 : Nat} {v1 v2 : Value} {s1 s2 s : ByteArray} (h : Two W base b1 v1 s1 b2 v2 s2) (hw : Wrote W base 77 b2 v2 s W1) : ∃ v, Two W1 base b1 v1 s1 b2 v s ∧ Below base W W1 := by
 obtain ⟨v, h1, h2⟩ := h.swap.first hw
 exact ⟨v, h1.swap, h2⟩
/-- Two new ones. -/
theorem Two.new (W : World) (base : Nat) (hb : base ≤ W.heap.size) : Two ((W.alloc (.cells #[.pointer none, .slice none 0 0] 77)).alloc (.cells #[.pointer none, .slice none 0 0] 77)) base W.heap.size (.slice none 0 0) ⟨#[]⟩ (W.heap.size + 1) (.slice none 0 0) ⟨#[]⟩ := by
 have e : (W.alloc (.cells #[.pointer none, .slice none 0 0] 77)).heap.size = W.heap.size + 1 := by simp
 refine ⟨(BA.new W base 77 hb).below (qbA (Below.refl _ _) _), ?_, by omega, by simp [Value.ownBlock]⟩
 have h := BA.new (W.alloc (.cells #[.pointer none, .slice none 0 0] 77)) base 77 (by omega)
 rw [e] at h
 exact h
end Go.Proofs.YtneogampbohfnaaDoor.ZipW
/- What zipput.Put writes: the parts in front, the parts behind, their sizes. -/
namespace Go.Proofs.YtneogampbohfnaaDoor.ZipW
open Go.RowKit Go.Proofs.YtneogampbohfnaaDoorW.PrintWords Go.Proofs.YtneogampbohfnaaDoorW.PrintLast Go.Proofs.YtneogampbohfnaaDoorW.PrintMore Go.Proofs.YtneogampbohfnaaDoor.ZB Go.Proofs.YtneogampbohfnaaDoor.BldA
set_option linter.unusedVariables false
set_option linter.unusedSimpArgs false
/-- The parts in front of the first i entries. -/
def frontTo (xs : List S39) : Nat → ByteArray
 | 0 => ⟨#[]⟩
 | i + 1 => frontTo xs i ++ ⟨#[80, 75, 3, 4]⟩ ++ commonB (rd_T39 xs (i : Int)) ++ namesB (rd_T39 xs (i : Int)) ++ (rd_T39 xs (i : Int)).f6
/-- The parts behind of the first i entries. -/
def behindTo (xs : List S39) : Nat → ByteArray
 | 0 => ⟨#[]⟩
 | i + 1 => behindTo xs i ++ ⟨#[80, 75, 1, 2]⟩ ++ numsB 2 [20] ++ commonB (rd_T39 xs (i : Int)) ++ numsB 2 [0, 0, 0] ++ numsB 4 [0, ((frontTo xs i).size : Int)] ++ namesB (rd_T39 xs (i : Int))
/-- The whole text. -/
def zipL (xs : List S39) : ByteArray :=
 frontTo xs xs.length ++ behindTo xs xs.length ++ ⟨#[80, 75, 5, 6]⟩ ++ numsB 2 [0, 0, (xs.length : Int), (xs.length : Int)] ++ numsB 4 [((behindTo xs xs.length).size : Int), ((frontTo xs xs.length).size : Int)] ++ numsB 2 [0]
theorem namesB_size (x : S39) (h : (headB x).size = 26) : (namesB x).size = x.f0.size + 26 := by unfold namesB; rw [ByteArray.size_append, h]
theorem parts_size (xs : List S39) (hH : ∀ i, i < xs.length → (headB (rd_T39 xs (i : Int))).size = 26) : ∀ i, i ≤ xs.length → (frontTo xs i).size + (behindTo xs i).size + 22 = sizeTo xs i
 | 0, _ => by simp [frontTo, behindTo, sizeTo, ByteArray.size]
 | i + 1, hi => by
  have ih := parts_size xs hH i (by omega)
  have hn := namesB_size _ (hH i (by omega))
  rw [frontTo, behindTo, sizeTo]
  have e1 : (⟨#[80, 75, 3, 4]⟩ : ByteArray).size = 4 := rfl
  have e2 : (⟨#[80, 75, 1, 2]⟩ : ByteArray).size = 4 := rfl
  simp only [ByteArray.size_append, numsB_size, commonB_size, hn, e1, e2, List.length_cons, List.length_nil]
  omega
theorem headB_size (x : S39) (h : mayE x.f2 x.f3 x.f4 = true) : (headB x).size = 26 := by
 have hv : x.f2.length = 4 := by
  unfold mayE vok at h
  simp only [Bool.and_eq_true, decide_eq_true_eq] at h
  exact h.1.1
 unfold headB putL endL
 rw [if_pos h, strOfNums_size]
 obtain ⟨a, b, c, d, e⟩ : ∃ a b c d, x.f2 = [a, b, c, d] := by
  match x.f2, hv with
  | [a, b, c, d], _ => exact ⟨a, b, c, d, rfl⟩
 rw [e]
 simp only [List.length_append, List.flatMap_cons, List.flatMap_nil, lowL_length, List.length_nil]
theorem heads_of {xs : List S39} (h : mayL xs = true) (i : Nat) (hi : i < xs.length) : (headB (rd_T39 xs (i : Int))).size = 26 := by
 unfold mayL at h
 rw [Bool.and_eq_true] at h
 have h1 := List.all_eq_true.1 h.1 i (List.mem_range.2 hi)
 unfold mayAt at h1
 simp only [Bool.and_eq_true] at h1
 exact headB_size _ h1.2.2.1
end Go.Proofs.YtneogampbohfnaaDoor.ZipW
/- The walk of zipput.Put (in parts; the way through is not yet written). -/
namespace Go.Proofs.YtneogampbohfnaaDoor.ZipW
open Go.RowKit Go.Proofs.YtneogampbohfnaaDoorW.PrintWords Go.Proofs.YtneogampbohfnaaDoorW.PrintLast Go.Proofs.YtneogampbohfnaaDoorW.PrintMore Go.Proofs.YtneogampbohfnaaDoor.ZB Go.Proofs.YtneogampbohfnaaDoor.BldA
set_option linter.unusedVariables false
set_option linter.unusedSimpArgs false
set_option maxHeartbeats 8000000 in
set_option maxRecDepth 100000 in
theorem len_c (w : World) (b : Nat) (A : Option Addr) (n c : Nat) (hcv : w.cell? ⟨b, 1, none⟩ = some (.slice A n c)) : Calls Tryd.prog 49 #[.pointer (some ⟨b, 0, none⟩)] w fun e w' => e = .returned (.int .i64 n) ∧ w' = w := by
 go_enter Tryd.func49, Tryd.ntmps49
 go_wp2
 go_ret
 exact ⟨rfl, rfl⟩
/-- The second one's text is told: the first one stands, the second one's block too. -/
theorem Two.told {W W1 : World} {base b1 b2 : Nat} {v1 v2 : Value} {s1 s2 : ByteArray} (h : Two W base b1 v1 s1 b2 v2 s2) (ht : BldA.Told W base v2 W1) : BA W1 base 77 b1 v1 s1 ∧ W1.heap.size ≥ W.heap.size ∧ b2 ≠ b1 ∧ (∀ k, v1.ownBlock = some k → k ≠ b2) ∧ ∃ A c, W1.cell? ⟨b2, 1, none⟩ = some (.slice A s2.size c) := by
 obtain ⟨hb, hk⟩ := ht
 obtain ⟨p, hp, hc⟩ := h.h2.at_
 obtain ⟨A, c, hv⟩ := own_slice h.h2.row
 have hc1 := (hk.2 b2 h.h2.lt h.h2.ne).trans hc
 refine ⟨h.h1.move (hk.2 b1 h.h1.lt (ba_row_ne h.h2 h.h1)) fun k hk' => hk.2 k (h.h1.row_lt k hk') (fun e => h.ap k hk' e), hk.1, h.ne.symm, fun k hk' e => ba_row_ne h.h1 h.h2 (e ▸ hk'), A, c, ?_⟩
 rw [← hv]
 exact (blk_cell hc1 1).trans rfl
/-- The first one is still written to; of the second its length is known. -/
structure One (W : World) (base b1 : Nat) (v1 : Value) (s1 : ByteArray) (b2 : Nat) (A : Option Addr) (n c : Nat) : Prop where
 h1 : BA W base 77 b1 v1 s1
 ne : b2 ≠ b1
 ap : ∀ k, v1.ownBlock = some k → k ≠ b2
 cell : W.cell? ⟨b2, 1, none⟩ = some (.slice A n c)
theorem Two.one {W W1 : World} {base b1 b2 : Nat} {v1 v2 : Value} {s1 s2 : ByteArray} (h : Two W base b1 v1 s1 b2 v2 s2) (ht : BldA.Told W base v2 W1) : ∃ A c, One W1 base b1 v1 s1 b2 A s2.size c := by
 obtain ⟨h1, h2, h3, h4, A, c, h5⟩ := h.told ht
 exact ⟨A, c, h1, h3, h4, h5⟩
theorem One.first {W W1 : World} {base b1 b2 : Nat} {v1 : Value} {s1 s : ByteArray} {A : Option Addr} {n c : Nat} (h : One W base b1 v1 s1 b2 A n c) (hw : Wrote W base 77 b1 v1 s W1) : ∃ v, One W1 base b1 v s b2 A n c ∧ Below base W W1 := by
 obtain ⟨v, k1, k2, k3, k4⟩ := hw
 refine ⟨v, ⟨k1, h.ne, fun k hk e => ?_, cell_kept h.cell k3 ?_⟩, k2⟩
 ·rcases k4 k hk with e2 | e2
  ·exact h.ap k e2 e
  ·have := qbl W _ h.cell
   have e3 : b2 < W.heap.size := this
   omega
 ·rintro (e | e)
  ·exact h.ne e
  ·exact h.ap _ e rfl
/-- What zipput.Put answers. -/
def putR (xs : List S39) : ByteArray × Int := if mayL xs = true then (if 4096 < sizeL xs then (⟨#[]⟩, 1301) else (zipL xs, 0)) else (⟨#[]⟩, 1300)
set_option maxHeartbeats 8000000 in
set_option maxRecDepth 100000 in
theorem put_no (A : Option Addr) (c : Nat) (xs : List S39) (w : World) (hr0 : Kd.C k39 w A xs.length xs) (hc0 : xs.length ≤ c) (hn : xs.length ≤ 9223372036854775807) (hm : mayL xs = false) :
  Calls Tryd.prog 17 #[.agg #[.slice A xs.length c]] w fun e w' => e = .returned (.tuple #[.string ⟨#[]⟩, .int .i64 1300]) ∧ Below w.heap.size w w' := by
 have HR0 := qas hr0
 have HC0 := qas hc0
 have HN := qas hn
 have HM := qas hm
 clear hr0 hc0 hm
 go_enter Tryd.func17, Tryd.ntmps17
 have HB0 := qas (qbA (Below.refl w.heap.size w) (.cells #[.slice A xs.length c] 24))
 go_wp2_with (go_at_call 22; (refine (may_walk A c xs _ (Kd.C_below HR0.out HB0.out) HC0.out HN.out).mono ?_); rintro e w1 ⟨he, hb1⟩; rw [HM.out] at he; subst he; have HB1 := qas (below_then HB0.out HB0.out.size hb1); clear hb1)
 go_ret2
 exact ⟨rfl, HB1.out⟩
set_option maxHeartbeats 8000000 in
set_option maxRecDepth 100000 in
theorem put_big (A : Option Addr) (c : Nat) (xs : List S39) (w : World) (hr0 : Kd.C k39 w A xs.length xs) (hc0 : xs.length ≤ c) (hn : xs.length ≤ 9223372036854775807) (hm : mayL xs = true) (hz : 4096 < sizeL xs) :
  Calls Tryd.prog 17 #[.agg #[.slice A xs.length c]] w fun e w' => e = .returned (.tuple #[.string ⟨#[]⟩, .int .i64 1301]) ∧ Below w.heap.size w w' := by
 have HR0 := qas hr0
 have HC0 := qas hc0
 have HN := qas hn
 have HM := qas hm
 have hz1 : decide ((4096 : Int) < (sizeL xs : Int)) = true := by simp; omega
 clear hr0 hc0 hm
 go_enter Tryd.func17, Tryd.ntmps17
 have HB0 := qas (qbA (Below.refl w.heap.size w) (.cells #[.slice A xs.length c] 24))
 have HG0 := qas (heap_alloc_new w (.cells #[.slice A xs.length c] 24))
 go_wp2_with (first | (go_at_call 22; (refine (may_walk A c xs _ (Kd.C_below HR0.out HB0.out) HC0.out HN.out).mono ?_); rintro e w1 ⟨he, hb1⟩; rw [HM.out] at he; subst he; have HG1 := qas ((hb1.block _ (blk_lt HG0.out)).trans HG0.out); have HB1 := qas (below_then HB0.out HB0.out.size hb1); clear hb1) | (go_at_call 45; (refine (size_walk A c xs w1 w.heap.size HG1.out (Kd.C_below HR0.out HB1.out) (small_of HM.out)).mono ?_); rintro e w2 ⟨rfl, hd⟩; have HB2 := qas (below_then HB1.out HB1.out.size hd.below); clear hd))
 go_ret2
 exact ⟨rfl, HB2.out⟩
end Go.Proofs.YtneogampbohfnaaDoor.ZipW
/- The walk of zipput.Put, the way through. -/
namespace Go.Proofs.YtneogampbohfnaaDoor.ZipW
open Go.RowKit Go.Proofs.YtneogampbohfnaaDoorW.PrintWords Go.Proofs.YtneogampbohfnaaDoorW.PrintLast Go.Proofs.YtneogampbohfnaaDoorW.PrintMore Go.Proofs.YtneogampbohfnaaDoor.ZB Go.Proofs.YtneogampbohfnaaDoor.BldA
set_option linter.unusedVariables false
set_option linter.unusedSimpArgs false
theorem z3s (F B : ByteArray) (n : Int) (h : F.size + B.size ≤ 4000) : (F ++ B ++ ⟨#[80, 75, 5, 6]⟩ ++ numsB 2 [0, 0, n, n]).size ≤ 1000000 := by
 have e4 : (⟨#[80, 75, 5, 6]⟩ : ByteArray).size = 4 := rfl
 simp only [ByteArray.size_append, numsB_size, List.length_cons, List.length_nil, e4]
 omega
theorem z4s (F B : ByteArray) (n a b : Int) (h : F.size + B.size ≤ 4000) : (F ++ B ++ ⟨#[80, 75, 5, 6]⟩ ++ numsB 2 [0, 0, n, n] ++ numsB 4 [a, b]).size ≤ 1000000 := by
 have e4 : (⟨#[80, 75, 5, 6]⟩ : ByteArray).size = 4 := rfl
 simp only [ByteArray.size_append, numsB_size, List.length_cons, List.length_nil, e4]
 omega
theorem nums_two (a b : Int) : #[.int .i64 a, .int .i64 b] = (nums .i64 [a, b]).toArray := rfl
set_option maxHeartbeats 8000000 in
set_option maxRecDepth 100000 in
theorem put_ok (A : Option Addr) (c : Nat) (xs : List S39) (w : World) (hr0 : Kd.C k39 w A xs.length xs) (hc0 : xs.length ≤ c) (hn : xs.length ≤ 9223372036854775807) (hm : mayL xs = true) (hz : sizeL xs ≤ 4096) :
  Calls Tryd.prog 17 #[.agg #[.slice A xs.length c]] w fun e w' => e = .returned (.tuple #[.string (zipL xs), .int .i64 0]) ∧ Below w.heap.size w w' := by
 have HR0 := qas hr0
 have HC0 := qas hc0
 have HN := qas hn
 have HM := qas hm
 have hz1 : decide ((4096 : Int) < (sizeL xs : Int)) = false := by simp; omega
 clear hr0 hc0 hm
 go_enter Tryd.func17, Tryd.ntmps17
 have HB0 := qas (qbA (Below.refl w.heap.size w) (.cells #[.slice A xs.length c] 24))
 have HG0 := qas (heap_alloc_new w (.cells #[.slice A xs.length c] 24))
 go_wp2_with (first | (go_at_call 22; (refine (may_walk A c xs _ (Kd.C_below HR0.out HB0.out) HC0.out HN.out).mono ?_); rintro e w1 ⟨he, hb1⟩; rw [HM.out] at he; subst he; have HG1 := qas ((hb1.block _ (blk_lt HG0.out)).trans HG0.out); have HB1 := qas (below_then HB0.out HB0.out.size hb1); clear hb1) | (go_at_call 45; (refine (size_walk A c xs w1 w.heap.size HG1.out (Kd.C_below HR0.out HB1.out) (small_of HM.out)).mono ?_); rintro e w2 ⟨rfl, hd⟩; have HB2 := qas (below_then HB1.out HB1.out.size hd.below); have HG2 := qas ((hd.below.block _ (blk_lt HG1.out)).trans HG1.out); have HT0 := qas (Two.new w2 w2.heap.size (Nat.le_refl _)); have hcf : ((w2.alloc (.cells #[.pointer none, .slice none 0 0] 77)).alloc (.cells #[.pointer none, .slice none 0 0] 77)).cell? ⟨w.heap.size, 0, none⟩ = some (.slice A xs.length c) := pw_cell_below (qbA (qbA (Below.refl w2.heap.size w2) _) _) ((blk_cell HG2.out 0).trans rfl); clear hd))
 go_loopw [22] (fun v22 wr => ∃ (i : Nat) (v1 v2 : Value), v22 = .int .i64 (i : Int) ∧ i ≤ xs.length ∧ Aside0 (Two wr w2.heap.size w2.heap.size v1 (frontTo xs i) (w2.heap.size + 1) v2 (behindTo xs i)) ∧ Aside0 (Below w2.heap.size w2 wr)) (fun v22 _ => xs.length - (intOf v22).toNat)
 case atStart => exact ⟨0, _, _, rfl, Nat.zero_le _, HT0, ⟨qbA (qbA (Below.refl _ _) _) _⟩⟩
 case round =>
  obtain ⟨i, v1, v2, rfl, hi, HT, HW⟩ := hrel
  have hi0 : (0 : Int) ≤ (i : Int) := by omega
  have hcw := pw_cell_below HW.out ((blk_cell HG2.out 0).trans rfl : w2.cell? ⟨w.heap.size, 0, none⟩ = some (.slice A xs.length c))
  by_cases hlt : i < xs.length
  ·have hlt' : (i : Int) < (xs.length : Int) := by omega
   obtain ⟨ad, A2, c2, e0, hE⟩ := ent_at (Kd.C_below HR0.out HB2.out) i hlt
   subst e0
   obtain ⟨x, hx⟩ : ∃ x, rd_T39 xs (i : Int) = x := ⟨_, rfl⟩
   rw [hx] at hE
   obtain ⟨p, hp⟩ : ∃ p, ad.add (i * 9) = p := ⟨_, rfl⟩
   rw [hp] at hE
   have HE := qas hE
   clear hE
   have HP := qas (show (frontTo xs i).size + (behindTo xs i).size ≤ 4000 from by
    have h1 := parts_size xs (heads_of HM.out) i hi
    have h2 := sizeTo_le (small_of HM.out) i hi
    have h3 := (small_of HM.out).n
    omega)
   have HN := qas (show (namesB x).size ≤ 40 from by
    have h1 := heads_of HM.out i hlt
    have h2 := (small_of HM.out).a i hlt
    rw [hx] at h1 h2
    have h3 := namesB_size x h1
    omega)
   have HX := qas (show x.f0.size ≤ 8 ∧ x.f6.size ≤ 300 from by
    have h2 := (small_of HM.out).a i hlt
    rw [hx] at h2
    exact h2)
   go_wp2_with (go_at_call 46; (refine (write_any wr w2.heap.size 77 (w2.heap.size + 1) v2 (behindTo xs i) _ lies77 HT.out.h2 (by have := HP.out; have e4 : (⟨#[80, 75, 1, 2]⟩ : ByteArray).size = 4 := rfl; omega) HW.out.size).mono ?_); rintro e a1 ⟨rfl, hw⟩; obtain ⟨u1, ht1, hb1⟩ := HT.out.second hw; have T1 := qas ht1; have W1 := qas (HW.out.trans hb1); clear hw ht1 hb1)
   go_wp2_with (go_at_call 47; (refine (nums_lit a1 w2.heap.size (w2.heap.size + 1) u1 _ 2 (by decide) [20] 1 _ rfl rfl T1.out.h2 (by decide) (by have := HP.out; have e4 : (⟨#[80, 75, 1, 2]⟩ : ByteArray).size = 4 := rfl; rw [ByteArray.size_append]; omega) W1.out.size).mono ?_); rintro e a2 ⟨rfl, hw⟩; obtain ⟨u2, ht, hb⟩ := T1.out.second hw; have T2 := qas ht; have W2 := qas (W1.out.trans hb); clear hw ht hb)
   go_wp2_with (go_at_call 48; (refine (common_walk w2 a2 (w2.heap.size + 1) u2 _ p x A2 c2 HE.out W2.out T2.out.h2 (by have := HP.out; have := HN.out; have := HX.out; have e4 : (⟨#[80, 75, 1, 2]⟩ : ByteArray).size = 4 := rfl; have e5 : (⟨#[80, 75, 3, 4]⟩ : ByteArray).size = 4 := rfl; (try simp only [ByteArray.size_append, numsB_size, commonB_size, List.length_cons, List.length_nil, e4, e5]); omega) (by have := HX.out; omega) (by have := HX.out; omega)).mono ?_); rintro e a3 ⟨rfl, hw⟩; obtain ⟨u3, ht, hb⟩ := T2.out.second hw; have T3 := qas ht; have W3 := qas (W2.out.trans hb); clear hw ht hb)
   go_wp2_with (go_at_call 47; (refine (nums_lit a3 w2.heap.size (w2.heap.size + 1) u3 _ 2 (by decide) [0, 0, 0] 3 _ rfl rfl T3.out.h2 (by decide) (by have := HP.out; have := HN.out; have := HX.out; have e4 : (⟨#[80, 75, 1, 2]⟩ : ByteArray).size = 4 := rfl; have e5 : (⟨#[80, 75, 3, 4]⟩ : ByteArray).size = 4 := rfl; (try simp only [ByteArray.size_append, numsB_size, commonB_size, List.length_cons, List.length_nil, e4, e5]); omega) W3.out.size).mono ?_); rintro e a4 ⟨rfl, hw⟩; obtain ⟨u4, ht, hb⟩ := T3.out.second hw; have T4 := qas ht; have W4 := qas (W3.out.trans hb); clear hw ht hb)
   go_wp2_with (go_at_call 49; (refine (len_b a4 w2.heap.size 77 w2.heap.size v1 _ T4.out.h1).mono ?_); rintro e q5 ⟨rfl, rfl⟩)
   go_wp2_with (go_at_call 47; (refine (nums_lit q5 w2.heap.size (w2.heap.size + 1) u4 _ 4 (by decide) [0, ((frontTo xs i).size : Int)] 2 _ rfl rfl T4.out.h2 (by decide) (by have := HP.out; have := HN.out; have := HX.out; have e4 : (⟨#[80, 75, 1, 2]⟩ : ByteArray).size = 4 := rfl; have e5 : (⟨#[80, 75, 3, 4]⟩ : ByteArray).size = 4 := rfl; (try simp only [ByteArray.size_append, numsB_size, commonB_size, List.length_cons, List.length_nil, e4, e5]); omega) W4.out.size).mono ?_); rintro e a5 ⟨rfl, hw⟩; obtain ⟨u5, ht, hb⟩ := T4.out.second hw; have T5 := qas ht; have W5 := qas (W4.out.trans hb); clear hw ht hb)
   go_wp2_with (go_at_call 50; (refine (names_walk w2 a5 (w2.heap.size + 1) u5 _ p x A2 c2 HE.out W5.out T5.out.h2 (by have := HP.out; have := HN.out; have := HX.out; have e4 : (⟨#[80, 75, 1, 2]⟩ : ByteArray).size = 4 := rfl; have e5 : (⟨#[80, 75, 3, 4]⟩ : ByteArray).size = 4 := rfl; (try simp only [ByteArray.size_append, numsB_size, commonB_size, List.length_cons, List.length_nil, e4, e5]); omega) (by have := HN.out; omega)).mono ?_); rintro e a6 ⟨rfl, hw⟩; obtain ⟨u6, ht, hb⟩ := T5.out.second hw; have T6 := qas ht; have W6 := qas (W5.out.trans hb); clear hw ht hb)
   go_wp2_with (go_at_call 46; (refine (write_any a6 w2.heap.size 77 w2.heap.size v1 _ _ lies77 T6.out.h1 (by have := HP.out; have := HN.out; have := HX.out; have e4 : (⟨#[80, 75, 1, 2]⟩ : ByteArray).size = 4 := rfl; have e5 : (⟨#[80, 75, 3, 4]⟩ : ByteArray).size = 4 := rfl; (try simp only [ByteArray.size_append, numsB_size, commonB_size, List.length_cons, List.length_nil, e4, e5]); omega) W6.out.size).mono ?_); rintro e a7 ⟨rfl, hw⟩; obtain ⟨y7, ht, hb⟩ := T6.out.first hw; have T7 := qas ht; have W7 := qas (W6.out.trans hb); clear hw ht hb)
   go_wp2_with (go_at_call 48; (refine (common_walk w2 a7 w2.heap.size y7 _ p x A2 c2 HE.out W7.out T7.out.h1 (by have := HP.out; have := HN.out; have := HX.out; have e4 : (⟨#[80, 75, 1, 2]⟩ : ByteArray).size = 4 := rfl; have e5 : (⟨#[80, 75, 3, 4]⟩ : ByteArray).size = 4 := rfl; (try simp only [ByteArray.size_append, numsB_size, commonB_size, List.length_cons, List.length_nil, e4, e5]); omega) (by have := HX.out; omega) (by have := HX.out; omega)).mono ?_); rintro e a8 ⟨rfl, hw⟩; obtain ⟨y8, ht, hb⟩ := T7.out.first hw; have T8 := qas ht; have W8 := qas (W7.out.trans hb); clear hw ht hb)
   go_wp2_with (go_at_call 50; (refine (names_walk w2 a8 w2.heap.size y8 _ p x A2 c2 HE.out W8.out T8.out.h1 (by have := HP.out; have := HN.out; have := HX.out; have e4 : (⟨#[80, 75, 1, 2]⟩ : ByteArray).size = 4 := rfl; have e5 : (⟨#[80, 75, 3, 4]⟩ : ByteArray).size = 4 := rfl; (try simp only [ByteArray.size_append, numsB_size, commonB_size, List.length_cons, List.length_nil, e4, e5]); omega) (by have := HN.out; omega)).mono ?_); rintro e a9 ⟨rfl, hw⟩; obtain ⟨y9, ht, hb⟩ := T8.out.first hw; have T9 := qas ht; have W9 := qas (W8.out.trans hb); clear hw ht hb; have hc6 := pw_cell_below W9.out HE.out.h6)
   have hi6 : (i : Int) ≤ 6 := by have := (small_of HM.out).n; omega
   go_wp2_with (go_at_call 46; (refine (write_any a9 w2.heap.size 77 w2.heap.size y9 _ _ lies77 T9.out.h1 (by have := HP.out; have := HN.out; have := HX.out; have e4 : (⟨#[80, 75, 1, 2]⟩ : ByteArray).size = 4 := rfl; have e5 : (⟨#[80, 75, 3, 4]⟩ : ByteArray).size = 4 := rfl; (try simp only [ByteArray.size_append, numsB_size, commonB_size, List.length_cons, List.length_nil, e4, e5]); omega) W9.out.size).mono ?_); rintro e b1 ⟨rfl, hw⟩; obtain ⟨y10, ht, hb⟩ := T9.out.first hw; have T10 := qas ht; have W10 := qas (W9.out.trans hb); clear hw ht hb)
   refine ⟨⟨i + 1, y10, u6, rfl, by omega, ⟨?_⟩, W10⟩, by show xs.length - ((i : Int) + 1).toNat < xs.length - (i : Int).toNat; omega⟩
   have h := T10.out
   rw [frontTo, behindTo, hx]
   exact h
  ·have hie : i = xs.length := by omega
   have hnlt : ¬ (i : Int) < (xs.length : Int) := by omega
   subst hie
   have HP := qas (show (frontTo xs xs.length).size + (behindTo xs xs.length).size ≤ 4000 from by
    have h1 := parts_size xs (heads_of HM.out) xs.length hi
    have h2 := sizeTo_le (small_of HM.out) xs.length hi
    have h3 := (small_of HM.out).n
    omega)
   go_wp2_with (go_at_call 49; (refine (len_b wr w2.heap.size 77 w2.heap.size v1 _ HT.out.h1).mono ?_); rintro e q1 ⟨rfl, rfl⟩)
   go_wp2_with (go_at_call 51; (refine (string_any q1 w2.heap.size 77 (w2.heap.size + 1) v2 _ HT.out.h2).mono ?_); rintro e q2 ⟨rfl, ht⟩; have HTD := qas ht; clear ht)
   obtain ⟨A3, c3, ho⟩ := HT.out.one HTD.out
   have O1 := qas ho
   have Y1 := qas (HW.out.trans HTD.out.1)
   have HZZ := qas (show xs.length ≤ 6 from (small_of HM.out).n)
   clear ho
   go_wp2_with (go_at_call 46; (refine (write_any q2 w2.heap.size 77 w2.heap.size v1 _ _ lies77 O1.out.h1 (by have := HP.out; have := HZZ.out; have e4 : (⟨#[80, 75, 5, 6]⟩ : ByteArray).size = 4 := rfl; (try simp only [ByteArray.size_append, numsB_size, List.length_cons, List.length_nil, e4]); omega) Y1.out.size).mono ?_); rintro e z2 ⟨rfl, hw⟩; obtain ⟨g2, ht, hb⟩ := O1.out.first hw; have O2 := qas ht; have Y2 := qas (Y1.out.trans hb); clear hw ht hb)
   go_wp2_with (go_at_call 46; (refine (write_any z2 w2.heap.size 77 w2.heap.size g2 _ _ lies77 O2.out.h1 (by have := HP.out; have := HZZ.out; have e4 : (⟨#[80, 75, 5, 6]⟩ : ByteArray).size = 4 := rfl; (try simp only [ByteArray.size_append, numsB_size, List.length_cons, List.length_nil, e4]); omega) Y2.out.size).mono ?_); rintro e z3 ⟨rfl, hw⟩; obtain ⟨g3, ht, hb⟩ := O2.out.first hw; have O3 := qas ht; have Y3 := qas (Y2.out.trans hb); clear hw ht hb; have hcz := pw_cell_below Y3.out ((blk_cell HG2.out 0).trans rfl : w2.cell? ⟨w.heap.size, 0, none⟩ = some (.slice A xs.length c)))
   go_wp2_with (go_at_call 47; (refine (nums_lit z3 w2.heap.size w2.heap.size g3 _ 2 (by decide) [0, 0, (xs.length : Int), (xs.length : Int)] 4 _ rfl rfl O3.out.h1 (by decide) (by have := HP.out; have := HZZ.out; have e4 : (⟨#[80, 75, 5, 6]⟩ : ByteArray).size = 4 := rfl; (try simp only [ByteArray.size_append, numsB_size, List.length_cons, List.length_nil, e4]); omega) Y3.out.size).mono ?_); rintro e z4 ⟨rfl, hw⟩; obtain ⟨g4, ht, hb⟩ := O3.out.first hw; have O4 := qas ht; have Y4 := qas (Y3.out.trans hb); clear hw ht hb)
   go_wp2_with (go_at_call 49; (refine (len_c z4 (w2.heap.size + 1) A3 _ c3 O4.out.cell).mono ?_); rintro e q5 ⟨rfl, rfl⟩)
   have N5 := nums_lit q5 w2.heap.size w2.heap.size g4 _ 4 (by decide) [((behindTo xs xs.length).size : Int), ((frontTo xs xs.length).size : Int)] 2 #[.int .i64 ((behindTo xs xs.length).size : Int), .int .i64 ((frontTo xs xs.length).size : Int)] rfl (nums_two _ _) O4.out.h1 (by decide) (z3s _ _ _ HP.out) Y4.out.size
   go_wp2_with (go_at_call 47; (with_reducible show Calls _ 47 _ (World.alloc q5 _) _); (refine N5.mono ?_); rintro e z5 ⟨rfl, hw⟩; obtain ⟨g5, ht, hb⟩ := O4.out.first hw; have O5 := qas ht; have Y5 := qas (Y4.out.trans hb); clear hw ht hb)
   go_wp2_with (go_at_call 47; (refine (nums_lit z5 w2.heap.size w2.heap.size g5 _ 2 (by decide) [0] 1 _ rfl rfl O5.out.h1 (by decide) (z4s _ _ _ _ _ HP.out) Y5.out.size).mono ?_); rintro e z6 ⟨rfl, hw⟩; obtain ⟨g6, ht, hb⟩ := O5.out.first hw; have O6 := qas ht; have Y6 := qas (Y5.out.trans hb); clear hw ht hb)
   go_wp2_with (go_at_call 51; (refine (string_any z6 w2.heap.size 77 w2.heap.size g6 _ O6.out.h1).mono ?_); rintro e q7 ⟨rfl, ht⟩; have HTE := qas ht; clear ht)
   go_ret2
   exact ⟨rfl, below_then HB2.out HB2.out.size (Y6.out.trans HTE.out.1)⟩
end Go.Proofs.YtneogampbohfnaaDoor.ZipW
/- zipput.Put, whole: what it answers for any folder. -/
namespace Go.Proofs.YtneogampbohfnaaDoor.ZipW
open Go.RowKit Go.Proofs.YtneogampbohfnaaDoorW.PrintWords Go.Proofs.YtneogampbohfnaaDoorW.PrintLast Go.Proofs.YtneogampbohfnaaDoorW.PrintMore Go.Proofs.YtneogampbohfnaaDoor.ZB Go.Proofs.YtneogampbohfnaaDoor.BldA
set_option linter.unusedVariables false
theorem put_walk (A : Option Addr) (c : Nat) (xs : List S39) (w : World) (hr0 : Kd.C k39 w A xs.length xs) (hc0 : xs.length ≤ c) (hn : xs.length ≤ 9223372036854775807) :
  Calls Tryd.prog 17 #[.agg #[.slice A xs.length c]] w fun e w' => e = .returned (.tuple #[.string (putR xs).1, .int .i64 (putR xs).2]) ∧ Below w.heap.size w w' := by
 unfold putR
 by_cases hm : mayL xs = true
 ·rw [if_pos hm]
  by_cases hz : 4096 < sizeL xs
  ·rw [if_pos hz]
   exact put_big A c xs w hr0 hc0 hn hm hz
  ·rw [if_neg hz]
   exact put_ok A c xs w hr0 hc0 hn hm (Nat.le_of_not_lt hz)
 ·rw [if_neg hm]
  exact put_no A c xs w hr0 hc0 hn (Bool.not_eq_true _ ▸ hm)
end Go.Proofs.YtneogampbohfnaaDoor.ZipW
/- zipput.Size, and zipput's three as the printed texts want them. -/
namespace Go.Proofs.YtneogampbohfnaaDoor.ZipW
open Go.RowKit Go.Proofs.YtneogampbohfnaaDoorW.PrintWords Go.Proofs.YtneogampbohfnaaDoorW.PrintLast Go.Proofs.YtneogampbohfnaaDoorW.PrintMore Go.Proofs.YtneogampbohfnaaDoor.ZB Go.Proofs.YtneogampbohfnaaDoor.BldA
set_option linter.unusedVariables false
/-- What zipput.Size answers. -/
def sizeR (xs : List S39) : Int := if mayL xs = true then (sizeL xs : Int) else 0
set_option maxHeartbeats 8000000 in
set_option maxRecDepth 100000 in
theorem size_no (A : Option Addr) (c : Nat) (xs : List S39) (w : World) (hr0 : Kd.C k39 w A xs.length xs) (hc0 : xs.length ≤ c) (hn : xs.length ≤ 9223372036854775807) (hm : mayL xs = false) :
  Calls Tryd.prog 20 #[.agg #[.slice A xs.length c]] w fun e w' => e = .returned (.int .i64 0) ∧ Below w.heap.size w w' := by
 have HR0 := qas hr0
 have HC0 := qas hc0
 have HN := qas hn
 have HM := qas hm
 clear hr0 hc0 hm
 go_enter Tryd.func20, Tryd.ntmps20
 have HB0 := qas (qbA (Below.refl w.heap.size w) (.cells #[.slice A xs.length c] 24))
 go_wp2_with (go_at_call 22; (refine (may_walk A c xs _ (Kd.C_below HR0.out HB0.out) HC0.out HN.out).mono ?_); rintro e w1 ⟨he, hb1⟩; rw [HM.out] at he; subst he; have HB1 := qas (below_then HB0.out HB0.out.size hb1); clear hb1)
 go_ret
 exact ⟨rfl, HB1.out⟩
set_option maxHeartbeats 8000000 in
set_option maxRecDepth 100000 in
theorem size_yes (A : Option Addr) (c : Nat) (xs : List S39) (w : World) (hr0 : Kd.C k39 w A xs.length xs) (hc0 : xs.length ≤ c) (hn : xs.length ≤ 9223372036854775807) (hm : mayL xs = true) :
  Calls Tryd.prog 20 #[.agg #[.slice A xs.length c]] w fun e w' => e = .returned (.int .i64 (sizeL xs : Int)) ∧ Below w.heap.size w w' := by
 have HR0 := qas hr0
 have HC0 := qas hc0
 have HN := qas hn
 have HM := qas hm
 clear hr0 hc0 hm
 go_enter Tryd.func20, Tryd.ntmps20
 have HB0 := qas (qbA (Below.refl w.heap.size w) (.cells #[.slice A xs.length c] 24))
 have HG0 := qas (heap_alloc_new w (.cells #[.slice A xs.length c] 24))
 go_wp2_with (first | (go_at_call 22; (refine (may_walk A c xs _ (Kd.C_below HR0.out HB0.out) HC0.out HN.out).mono ?_); rintro e w1 ⟨he, hb1⟩; rw [HM.out] at he; subst he; have HG1 := qas ((hb1.block _ (blk_lt HG0.out)).trans HG0.out); have HB1 := qas (below_then HB0.out HB0.out.size hb1); clear hb1) | (go_at_call 45; (refine (size_walk A c xs w1 w.heap.size HG1.out (Kd.C_below HR0.out HB1.out) (small_of HM.out)).mono ?_); rintro e w2 ⟨rfl, hd⟩; have HB2 := qas (below_then HB1.out HB1.out.size hd.below); clear hd))
 go_ret
 exact ⟨rfl, HB2.out⟩
theorem size_any (A : Option Addr) (c : Nat) (xs : List S39) (w : World) (hr0 : Kd.C k39 w A xs.length xs) (hc0 : xs.length ≤ c) (hn : xs.length ≤ 9223372036854775807) :
  Calls Tryd.prog 20 #[.agg #[.slice A xs.length c]] w fun e w' => e = .returned (.int .i64 (sizeR xs)) ∧ Below w.heap.size w w' := by
 unfold sizeR
 by_cases hm : mayL xs = true
 ·rw [if_pos hm]
  exact size_yes A c xs w hr0 hc0 hn hm
 ·rw [if_neg hm]
  exact size_no A c xs w hr0 hc0 hn (Bool.not_eq_true _ ▸ hm)
end Go.Proofs.YtneogampbohfnaaDoor.ZipW
/- An archive's text tells its folder: parts, cut off one by one. No program in sight. -/
namespace Go.Proofs.YtneogampbohfnaaDoor.ZipW
open Go.RowKit Go.Proofs.YtneogampbohfnaaDoorW.PrintWords Go.Proofs.YtneogampbohfnaaDoorW.PrintLast Go.Proofs.YtneogampbohfnaaDoorW.PrintMore Go.Proofs.YtneogampbohfnaaDoor.ZB
set_option linter.unusedVariables false
set_option linter.unusedSimpArgs false
theorem app_inj {a b c d : ByteArray} (h : a ++ b = c ++ d) (hs : a.size = c.size) : a = c ∧ b = d := by
 have h1 : a.data.toList ++ b.data.toList = c.data.toList ++ d.data.toList := by
  have := congrArg (fun x : ByteArray => x.data.toList) h
  simpa only [ByteArray.data_append, Array.toList_append] using this
 have h2 := List.append_inj h1 (by show a.data.toList.length = c.data.toList.length; rw [Array.length_toList, Array.length_toList]; exact hs)
 exact ⟨Go.WideShapes.bytes_inj h2.1, Go.WideShapes.bytes_inj h2.2⟩
theorem app_inj' {a b c d : ByteArray} (h : a ++ b = c ++ d) (hs : b.size = d.size) : a = c ∧ b = d := by
 have h1 := congrArg ByteArray.size h
 rw [ByteArray.size_append, ByteArray.size_append] at h1
 exact app_inj h (by omega)
theorem app_assoc (a b c : ByteArray) : a ++ b ++ c = a ++ (b ++ c) := by
 apply Go.WideShapes.bytes_inj
 simp only [ByteArray.data_append, Array.toList_append, List.append_assoc]
theorem nil_app (a : ByteArray) : (⟨#[]⟩ : ByteArray) ++ a = a := by
 apply Go.WideShapes.bytes_inj
 simp only [ByteArray.data_append, Array.toList_append, List.nil_append]
theorem app_nil (a : ByteArray) : a ++ (⟨#[]⟩ : ByteArray) = a := by
 apply Go.WideShapes.bytes_inj
 simp only [ByteArray.data_append, Array.toList_append, List.append_nil]
def isByte (l : List Int) : Prop := ∀ x ∈ l, 0 ≤ x ∧ x < 256
theorem bytesOf_nums {l : List Int} (h : isByte l) : bytesOf (strOfNums l) = l := by
 unfold bytesOf
 rw [strOfNums_data, List.map_map]
 conv => rhs; rw [← List.map_id l]
 refine List.map_congr_left fun x hx => ?_
 obtain ⟨h0, h1⟩ := h x hx
 show ((UInt8.ofNat x.toNat).toNat : Int) = x
 rw [UInt8.toNat_ofNat_of_lt' (show x.toNat < UInt8.size by show x.toNat < 256; omega)]
 omega
theorem lowL_byte (x : Int) (n : Nat) : isByte (lowL x n) := by
 intro y hy
 unfold lowL at hy
 obtain ⟨i, _, rfl⟩ := List.mem_map.mp hy
 unfold lowB
 omega
theorem flat_byte {α : Type} (f : α → List Int) (hf : ∀ x, isByte (f x)) (l : List α) : isByte (l.flatMap f) := by
 intro y hy
 obtain ⟨x, _, hx⟩ := List.mem_flatMap.mp hy
 exact hf x y hx
theorem app_byte {a b : List Int} (ha : isByte a) (hb : isByte b) : isByte (a ++ b) := by
 intro y hy
 rcases List.mem_append.mp hy with h | h
 ·exact ha y h
 ·exact hb y h
theorem nums_inj {l m : List Int} (hl : isByte l) (hm : isByte m) (h : strOfNums l = strOfNums m) : l = m := by
 rw [← bytesOf_nums hl, ← bytesOf_nums hm, h]
theorem lowB_at (X i : Nat) (hi : i < 8) : lowB (X : Int) i = ((X / 2 ^ (8 * i) % 256 : Nat) : Int) := by
 unfold lowB shr
 rw [Nat.min_eq_left (show ((8 * i : Nat) : Int).toNat ≤ IntKind.i64.bits by show ((8 * i : Nat) : Int).toNat ≤ 64; omega), show ((8 * i : Nat) : Int).toNat = 8 * i from by omega]
 simp
theorem low4_inj {X Y : Nat} (hX : X < 4294967296) (hY : Y < 4294967296) (h : lowL (X : Int) 4 = lowL (Y : Int) 4) : X = Y := by
 have e : ∀ i, i < 4 → lowB (X : Int) i = lowB (Y : Int) i := fun i hi => by
  have h1 := congrArg (fun l => l[i]?) h
  simpa [lowL, hi] using h1
 have e0 := e 0 (by decide)
 have e1 := e 1 (by decide)
 have e2 := e 2 (by decide)
 have e3 := e 3 (by decide)
 rw [lowB_at X _ (by decide), lowB_at Y _ (by decide)] at e0 e1 e2 e3
 simp only [Nat.reduceMul, Nat.reducePow] at e0 e1 e2 e3
 omega
theorem low2_inj {X Y : Nat} (hX : X < 65536) (hY : Y < 65536) (h : lowL (X : Int) 2 = lowL (Y : Int) 2) : X = Y := by
 have e : ∀ i, i < 2 → lowB (X : Int) i = lowB (Y : Int) i := fun i hi => by
  have h1 := congrArg (fun l => l[i]?) h
  simpa [lowL, hi] using h1
 have e0 := e 0 (by decide)
 have e1 := e 1 (by decide)
 rw [lowB_at X _ (by decide), lowB_at Y _ (by decide)] at e0 e1
 simp only [Nat.reduceMul, Nat.reducePow] at e0 e1
 omega
theorem low1_inj {X Y : Nat} (hX : X < 256) (hY : Y < 256) (h : lowL (X : Int) 1 = lowL (Y : Int) 1) : X = Y := by
 have e0 : lowB (X : Int) 0 = lowB (Y : Int) 0 := by
  have h1 := congrArg (fun l => l[0]?) h
  simpa [lowL] using h1
 rw [lowB_at X _ (by decide), lowB_at Y _ (by decide)] at e0
 simp only [Nat.reduceMul, Nat.reducePow] at e0
 omega
theorem numsL_byte (n : Nat) (xs : List Int) : isByte (numsL n xs) := flat_byte _ (fun x => lowL_byte x n) xs
/-- A row of numbers, each of so many bytes, tells each of them. -/
theorem numsB_inj {n : Nat} {xs ys : List Int} (h : numsB n xs = numsB n ys) : numsL n xs = numsL n ys := nums_inj (numsL_byte n xs) (numsL_byte n ys) h
theorem numsL_cons (n : Nat) (x : Int) (xs : List Int) : numsL n (x :: xs) = lowL x n ++ numsL n xs := rfl
theorem numsL_head {n : Nat} {x y : Int} {xs ys : List Int} (h : numsL n (x :: xs) = numsL n (y :: ys)) : lowL x n = lowL y n ∧ numsL n xs = numsL n ys := by
 rw [numsL_cons, numsL_cons] at h
 exact List.append_inj h (by rw [lowL_length, lowL_length])
/-- What may be an entry that is written. -/
structure Fit (x : S39) : Prop where
 name : x.f0.size ≤ 8
 data : x.f6.size ≤ 300
 head : mayE x.f2 x.f3 x.f4 = true
 meth : 0 ≤ x.f5 ∧ x.f5 < 65536
 size : 0 ≤ x.f7 ∧ x.f7 < 4294967296
 sum : 0 ≤ x.f8 ∧ x.f8 < 4294967296
theorem content_fit {x : S39} (h : content x = true) : (0 ≤ x.f5 ∧ x.f5 < 65536) ∧ (0 ≤ x.f7 ∧ x.f7 < 4294967296) ∧ (0 ≤ x.f8 ∧ x.f8 < 4294967296) := by
 unfold content kept at h
 split at h
 ·simp only [Bool.and_eq_true, decide_eq_true_eq] at h
  omega
 ·split at h
  ·simp only [Bool.and_eq_true, decide_eq_true_eq] at h
   omega
  ·split at h
   ·simp only [Bool.and_eq_true, decide_eq_true_eq] at h
    omega
   ·exact absurd h (by decide)
theorem fit_of {xs : List S39} (h : mayL xs = true) (i : Nat) (hi : i < xs.length) : Fit (rd_T39 xs (i : Int)) := by
 have hs := (small_of h).a i hi
 unfold mayL at h
 rw [Bool.and_eq_true, decide_eq_true_eq] at h
 have h1 := List.all_eq_true.1 h.1 i (List.mem_range.2 hi)
 unfold mayAt at h1
 simp only [Bool.and_eq_true] at h1
 obtain ⟨_, _, h2, h3⟩ := h1
 have h4 := content_fit h3
 exact ⟨hs.1, hs.2, h2, h4.1, h4.2.1, h4.2.2⟩
/-- An entry's part in front. -/
def partF (x : S39) : ByteArray := ⟨#[80, 75, 3, 4]⟩ ++ commonB x ++ namesB x ++ x.f6
theorem front_next (xs : List S39) (i : Nat) : frontTo xs (i + 1) = frontTo xs i ++ partF (rd_T39 xs (i : Int)) := by
 rw [frontTo, partF]
 simp only [app_assoc]
theorem front_more (xs : List S39) (i : Nat) : ∀ d, ∃ r, frontTo xs (i + d) = frontTo xs i ++ r
 | 0 => ⟨⟨#[]⟩, (app_nil _).symm⟩
 | d + 1 => by
  obtain ⟨r, h⟩ := front_more xs i d
  exact ⟨r ++ partF (rd_T39 xs ((i + d : Nat) : Int)), by rw [show i + (d + 1) = (i + d) + 1 from rfl, front_next, h, app_assoc]⟩
/-- What stands behind the parts in front. -/
def endB (xs : List S39) : ByteArray := behindTo xs xs.length ++ (⟨#[80, 75, 5, 6]⟩ ++ (numsB 2 [0, 0, (xs.length : Int), (xs.length : Int)] ++ (numsB 4 [((behindTo xs xs.length).size : Int), ((frontTo xs xs.length).size : Int)] ++ numsB 2 [0])))
theorem zipL_parts (xs : List S39) : zipL xs = frontTo xs xs.length ++ endB xs := by
 unfold zipL endB
 simp only [app_assoc]
theorem zipL_cut (xs : List S39) (i : Nat) (hi : i ≤ xs.length) : ∃ r, zipL xs = frontTo xs i ++ r := by
 obtain ⟨r, h⟩ := front_more xs i (xs.length - i)
 rw [show i + (xs.length - i) = xs.length from by omega] at h
 exact ⟨r ++ endB xs, by rw [zipL_parts, h, app_assoc]⟩
theorem head_inj {x y : S39} (hx : mayE x.f2 x.f3 x.f4 = true) (hy : mayE y.f2 y.f3 y.f4 = true) (h : headB x = headB y) : x.f1 = y.f1 ∧ x.f2 = y.f2 ∧ x.f3 = y.f3 ∧ x.f4 = y.f4 := by
 obtain ⟨x0, x1, x2, x3, x4, x5, x6, x7, x8⟩ := x
 obtain ⟨y0, y1, y2, y3, y4, y5, y6, y7, y8⟩ := y
 dsimp only at hx hy ⊢
 unfold headB at h
 dsimp only at h
 rw [if_pos hx, if_pos hy] at h
 have p : ∀ {v : List Int} {s n : Int}, mayE v s n = true → v.length = 4 ∧ (∀ x ∈ v, 0 ≤ x ∧ x ≤ 1048576) ∧ (1 ≤ s ∧ s ≤ 1048576) ∧ (0 ≤ n ∧ n < 4) := by
  intro v s n h
  unfold mayE vok nodeOk okc at h
  simp only [Bool.and_eq_true, decide_eq_true_eq, List.all_eq_true] at h
  exact ⟨h.1.1, fun x hx => h.1.2 x hx, ⟨h.2.1, h.2.2.1.2⟩, h.2.2.2⟩
 obtain ⟨lx, bx, sx, nx⟩ := p hx
 obtain ⟨ly, by_, sy, ny⟩ := p hy
 have bput : ∀ (v : List Int) (s n : Int) (g : Bool), isByte (putL v s n g) := fun v s n g => by
  unfold putL endL
  exact app_byte (app_byte (app_byte (lowL_byte _ _) (lowL_byte _ _)) (flat_byte _ (fun x => lowL_byte x 4) _)) (app_byte (app_byte (lowL_byte _ _) (lowL_byte _ _)) (lowL_byte _ _))
 have e := nums_inj (bput _ _ _ _) (bput _ _ _ _) h
 match x2, lx, y2, ly with
 | [a, b, c, d], _, [a', b', c', d'], _ =>
  unfold putL endL at e
  simp only [List.flatMap_cons, List.flatMap_nil, List.append_assoc, List.append_nil] at e
  have e := (List.append_inj e (show (lowL _ _).length = (lowL _ _).length from rfl)).2
  have e := (List.append_inj e (show (lowL _ _).length = (lowL _ _).length from rfl)).2
  have f1 := List.append_inj e (by rw [lowL_length, lowL_length])
  have f2 := List.append_inj f1.2 (by rw [lowL_length, lowL_length])
  have f3 := List.append_inj f2.2 (by rw [lowL_length, lowL_length])
  have f4 := List.append_inj f3.2 (by rw [lowL_length, lowL_length])
  have f5 := List.append_inj f4.2 (by rw [lowL_length, lowL_length])
  have f6 := List.append_inj f5.2 (by rw [lowL_length, lowL_length])
  have ne4 : ∀ {u v : Int}, 0 ≤ u ∧ u ≤ 1048576 → 0 ≤ v ∧ v ≤ 1048576 → lowL u 4 = lowL v 4 → u = v := by
   intro u v hu hv h
   obtain ⟨U, rfl⟩ : ∃ U : Nat, u = (U : Int) := ⟨u.toNat, by omega⟩
   obtain ⟨V, rfl⟩ : ∃ V : Nat, v = (V : Int) := ⟨v.toNat, by omega⟩
   rw [low4_inj (by omega) (by omega) h]
  have ga := ne4 (bx a (by simp)) (by_ a' (by simp)) f1.1
  have gb := ne4 (bx b (by simp)) (by_ b' (by simp)) f2.1
  have gc := ne4 (bx c (by simp)) (by_ c' (by simp)) f3.1
  have gd := ne4 (bx d (by simp)) (by_ d' (by simp)) f4.1
  have gs := ne4 (by omega) (by omega) f5.1
  have gn : x4 = y4 := by
   obtain ⟨U, rfl⟩ : ∃ U : Nat, x4 = (U : Int) := ⟨x4.toNat, by omega⟩
   obtain ⟨V, rfl⟩ : ∃ V : Nat, y4 = (V : Int) := ⟨y4.toNat, by omega⟩
   rw [low1_inj (by omega) (by omega) f6.1]
  refine ⟨?_, by rw [ga, gb, gc, gd], gs, gn⟩
  have gg := f6.2
  cases x1 <;> cases y1
  ·rfl
  ·exact absurd gg (by decide +kernel)
  ·exact absurd gg (by decide +kernel)
  ·rfl
/-- An entry's part tells it, whatever stands behind. -/
theorem part_inj {x y : S39} (hx : Fit x) (hy : Fit y) {r s : ByteArray} (h : partF x ++ r = partF y ++ s) : x = y ∧ r = s := by
 have zx := headB_size x hx.head
 have zy := headB_size y hy.head
 unfold partF namesB at h
 simp only [app_assoc] at h
 have h := (app_inj h rfl).2
 have h1 := app_inj h (by rw [commonB_size, commonB_size])
 have hc := h1.1
 unfold commonB at hc
 simp only [app_assoc] at hc
 have c1 := app_inj hc (by rw [numsB_size, numsB_size]; rfl)
 have c2 := app_inj c1.2 (by rw [numsB_size, numsB_size]; rfl)
 have a1 := numsL_head (numsL_head (numsL_head (numsB_inj c1.1)).2).2
 have a2 := numsL_head (numsB_inj c2.1)
 have a3 := numsL_head a2.2
 have a4 := numsL_head a3.2
 have a5 := numsL_head (numsB_inj c2.2)
 have e0 : x.f0.size = y.f0.size := low2_inj (by have := hx.name; omega) (by have := hy.name; omega) a5.1
 have e6 : x.f6.size = y.f6.size := low4_inj (by have := hx.data; omega) (by have := hy.data; omega) a3.1
 have nat : ∀ {u : Int}, 0 ≤ u → ∃ U : Nat, u = (U : Int) := fun {u} hu => ⟨u.toNat, by omega⟩
 have e5 : x.f5 = y.f5 := by
  have b1 := hx.meth
  have b2 := hy.meth
  obtain ⟨U, hU⟩ := nat b1.1
  obtain ⟨V, hV⟩ := nat b2.1
  rw [hU, hV] at a1
  rw [hU, hV, low2_inj (by omega) (by omega) a1.1]
 have e7 : x.f7 = y.f7 := by
  have b1 := hx.size
  have b2 := hy.size
  obtain ⟨U, hU⟩ := nat b1.1
  obtain ⟨V, hV⟩ := nat b2.1
  rw [hU, hV] at a4
  rw [hU, hV, low4_inj (by omega) (by omega) a4.1]
 have e8 : x.f8 = y.f8 := by
  have b1 := hx.sum
  have b2 := hy.sum
  obtain ⟨U, hU⟩ := nat b1.1
  obtain ⟨V, hV⟩ := nat b2.1
  rw [hU, hV] at a2
  rw [hU, hV, low4_inj (by omega) (by omega) a2.1]
 have h2 := app_inj h1.2 e0
 have h3 := app_inj h2.2 (by rw [zx, zy])
 have h4 := app_inj h3.2 e6
 obtain ⟨g1, g2, g3, g4⟩ := head_inj hx.head hy.head h3.1
 refine ⟨?_, h4.2⟩
 obtain ⟨x0, x1, x2, x3, x4, x5, x6, x7, x8⟩ := x
 obtain ⟨y0, y1, y2, y3, y4, y5, y6, y7, y8⟩ := y
 dsimp only at *
 rw [h2.1, g1, g2, g3, g4, e5, h4.1, e7, e8]
theorem tail_inj (F G : ByteArray) (n m p q p' q' : Int) (h : F ++ numsB 2 [0, 0, n, n] ++ numsB 4 [p, q] ++ numsB 2 [0] = G ++ numsB 2 [0, 0, m, m] ++ numsB 4 [p', q'] ++ numsB 2 [0]) : F = G ∧ lowL n 2 = lowL m 2 ∧ lowL p 4 = lowL p' 4 ∧ lowL q 4 = lowL q' 4 := by
 have s2 : ∀ a b c d : Int, (numsB 2 [a, b, c, d]).size = 8 := fun a b c d => by rw [numsB_size]; rfl
 have s4 : ∀ a b : Int, (numsB 4 [a, b]).size = 8 := fun a b => by rw [numsB_size]; rfl
 have h1 := app_inj' h rfl
 have h2 := app_inj' h1.1 (by rw [s4, s4])
 have h3 := app_inj' h2.1 (by rw [s2, s2])
 have a := numsL_head (numsL_head (numsL_head (numsB_inj h3.2)).2).2
 have b := numsL_head (numsB_inj h2.2)
 exact ⟨h3.1, a.1, b.1, (numsL_head b.2).1⟩
theorem zipL_count {xs ys : List S39} (hx : xs.length ≤ 6) (hy : ys.length ≤ 6) (h : zipL xs = zipL ys) : xs.length = ys.length :=
 low2_inj (by omega) (by omega) (tail_inj _ _ _ _ _ _ _ _ h).2.1
/-- Unlike folders have unlike archives. -/
theorem zipL_inj {xs ys : List S39} (hx : mayL xs = true) (hy : mayL ys = true) (h : zipL xs = zipL ys) : xs = ys := by
 have hn := zipL_count (small_of hx).n (small_of hy).n h
 have key : ∀ i, i ≤ xs.length → frontTo xs i = frontTo ys i ∧ ∀ j, j < i → rd_T39 xs (j : Int) = rd_T39 ys (j : Int) := by
  intro i
  induction i with
  | zero => exact fun _ => ⟨rfl, fun j hj => absurd hj (Nat.not_lt_zero j)⟩
  | succ i ih =>
   intro hi
   obtain ⟨h1, h2⟩ := ih (by omega)
   obtain ⟨r, hr⟩ := zipL_cut xs (i + 1) hi
   obtain ⟨s, hs⟩ := zipL_cut ys (i + 1) (by omega)
   rw [front_next, app_assoc] at hr hs
   rw [hr, hs] at h
   have h3 := (app_inj h (by rw [h1])).2
   have h4 := part_inj (fit_of hx i (by omega)) (fit_of hy i (by omega)) h3
   refine ⟨by rw [front_next, front_next, h1, h4.1], fun j hj => ?_⟩
   rcases Nat.lt_or_ge j i with h5 | h5
   ·exact h2 j h5
   ·rw [show j = i from by omega]; exact h4.1
 have hk := (key xs.length (Nat.le_refl _)).2
 refine List.ext_getElem hn fun j h1 h2 => ?_
 have := hk j h1
 unfold rd_T39 at this
 rw [Int.toNat_natCast, List.getD_eq_getElem?_getD, List.getD_eq_getElem?_getD, List.getElem?_eq_getElem h1, List.getElem?_eq_getElem h2] at this
 exact this
end Go.Proofs.YtneogampbohfnaaDoor.ZipW
