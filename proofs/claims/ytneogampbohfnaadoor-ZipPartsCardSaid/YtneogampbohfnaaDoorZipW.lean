/- 'vector.May' over plain lists. -/
import Derived.Test.YtneogampbohfnaaDoorZB0
import Derived.Test.YtneogampbohfnaaDoorProg
import Derived.Below
import Derived.Deep.Draws
import Derived.OwnWalk
import Derived.Laws.OwnMore
import Derived.Tactics
import Derived.WalkKit
import Derived.KernelRfl
import Derived.RowKit3
import Derived.Deep.RegionLaw
import Derived.Deep.QuietTactic
import Derived.BigQuiet
import Derived.Lib.Builder
import Derived.Lib.AppendStr
import Derived.Lib.UnsafeStr
import Derived.Test.YtneogampbohfnaaDoorWMore
import Derived.Test.YtneogampbohfnaaDoorWKept
import Derived.Deep.RegionHeld
namespace Go.Proofs.YtneogampbohfnaaDoor.ZB
set_option linter.unusedVariables false
set_option linter.unusedSimpArgs false
open Go.RowKit Go.Proofs.YtneogampbohfnaaDoorW.PrintWords Go.Proofs.YtneogampbohfnaaDoorW.PrintLast Go.Proofs.YtneogampbohfnaaDoorW.PrintMore
def okc (n : Int) : Bool := decide (0 ≤ n) && decide (n ≤ 1048576)
/-- May a list be a vector? -/
def vok (l : List Int) : Bool := decide (l.length = 4) && l.all okc
theorem rd_drop (l : List Int) (i : Nat) (h : i < l.length) : l.drop i = rd l (i : Int) :: l.drop (i + 1) := by
 rw [List.drop_eq_getElem_cons h]
 unfold rd
 simp [List.getD_eq_getElem?_getD, List.getElem?_eq_getElem h]
theorem may1 (n : Int) : vector_May_1.f n = some (!(okc n)) := by
 unfold vector_May_1.f vector_Count.f okc
 by_cases h : n ≥ 0
 ·rw [if_pos h]; simp [show 0 ≤ n from h]
 ·rw [if_neg h]; simp [show ¬ 0 ≤ n from h]
theorem index_bad (l : List Int) (hl : l.length ≤ 4611686018427387904) : ∀ (d i : Nat), i + d = l.length → ∀ k, ∃ r, slices_IndexFunc_int_int_F110.l0 (k + d + 1) l (l.length : Int) (i : Int) = some r ∧ (decide (r ≥ 0) = !((l.drop i).all okc))
 | 0, i, hi, k => by
  refine ⟨-1, ?_, ?_⟩
  ·simp only [slices_IndexFunc_int_int_F110.l0]
   rw [if_neg (by omega)]
  ·rw [List.drop_eq_nil_of_le (by omega)]
   rfl
 | d + 1, i, hi, k => by
  rw [show k + (d + 1) + 1 = (k + d + 1) + 1 from by omega]
  simp only [slices_IndexFunc_int_int_F110.l0]
  rw [if_pos (by omega), if_pos (by omega), if_pos (by omega), may1]
  simp only [Option.bind_some]
  rw [rd_drop l i (by omega), List.all_cons]
  cases h : okc (rd l (i : Int))
  ·exact ⟨(i : Int), by simp, by simp⟩
  ·obtain ⟨r, h1, h2⟩ := index_bad l hl d (i + 1) (by omega) k
   refine ⟨r, ?_, by simpa using h2⟩
   simp only [Bool.not_true, Bool.false_eq_true, if_false]
   rw [show wrap64 ((i : Int) + 1) = ((i + 1 : Nat) : Int) from by unfold wrap64; omega]
   exact h1
theorem may_k (l : List Int) {k : Nat} (hk : 5 ≤ k) : vector_May.f k l = some (vok l) := by
 unfold vector_May.f vok
 by_cases h : l.length = 4
 ·rw [if_pos (by omega)]
  obtain ⟨m, rfl⟩ : ∃ m, k = m + 4 + 1 := ⟨k - 5, by omega⟩
  obtain ⟨r, h1, h2⟩ := index_bad l (by omega) 4 0 (by omega) m
  unfold slices_ContainsFunc_int_int_F110.f slices_IndexFunc_int_int_F110.f
  rw [show ((0 : Nat) : Int) = 0 from rfl] at h1
  rw [h1]
  simp only [Option.bind_some, List.drop_zero] at h2 ⊢
  rw [h2]
  simp [h]
 ·rw [if_neg (by omega)]
  simp [h]
/-- A vector's four counts. -/
theorem four_of {l : List Int} (h : vok l = true) : ∃ a b c d : Int, l = [a, b, c, d] ∧ (0 ≤ a ∧ a ≤ 1048576) ∧ (0 ≤ b ∧ b ≤ 1048576) ∧ (0 ≤ c ∧ c ≤ 1048576) ∧ (0 ≤ d ∧ d ≤ 1048576) := by
 unfold vok at h
 rw [Bool.and_eq_true, decide_eq_true_eq] at h
 obtain ⟨h4, ha⟩ := h
 match l, h4 with
 | [a, b, c, d], _ =>
  simp only [List.all_cons, List.all_nil, okc, Bool.and_eq_true, decide_eq_true_eq] at ha
  exact ⟨a, b, c, d, rfl, ha.1, ha.2.1, ha.2.2.1, ha.2.2.2.1⟩
theorem vok_four {a b c d : Int} (ha : 0 ≤ a ∧ a ≤ 1048576) (hb : 0 ≤ b ∧ b ≤ 1048576) (hc : 0 ≤ c ∧ c ≤ 1048576) (hd : 0 ≤ d ∧ d ≤ 1048576) : vok [a, b, c, d] = true := by
 unfold vok
 simp only [List.all_cons, List.all_nil, okc, Bool.and_eq_true, decide_eq_true_eq]
 exact ⟨rfl, ha, hb, hc, hd, trivial⟩
end Go.Proofs.YtneogampbohfnaaDoor.ZB
/- Chapter 12 over plain lists: low bytes, which heads may be, what 'Put' answers. -/
namespace Go.Proofs.YtneogampbohfnaaDoor.ZB
set_option linter.unusedVariables false
set_option linter.unusedSimpArgs false
open Go.RowKit Go.Proofs.YtneogampbohfnaaDoorW.PrintWords Go.Proofs.YtneogampbohfnaaDoorW.PrintLast Go.Proofs.YtneogampbohfnaaDoorW.PrintMore
theorem w64 {n : Int} (h : -9223372036854775808 ≤ n) (h' : n < 9223372036854775808) : wrap64 n = n := by unfold wrap64; omega
def lowB (x : Int) (i : Nat) : Int := shr .i64 x ((8 * i : Nat) : Int) % 256
/-- The n lowest bytes of x, the lowest first. -/
def lowL (x : Int) (n : Nat) : List Int := (List.range n).map (lowB x)
theorem lowL_length (x : Int) (n : Nat) : (lowL x n).length = n := by simp [lowL]
theorem low_l0 (x : Int) (n : Nat) (hn : n ≤ 8) : ∀ (d i : Nat), i + d = n → ∀ K, d + 1 ≤ K → extra_Low.l0 K x (lowL x i ++ List.replicate d 0) (n : Int) (i : Int) = some (strOfNums (lowL x n))
 | 0, i, hi, K, hK => by
  obtain ⟨m, rfl⟩ : ∃ m, K = m + 1 := ⟨K - 1, by omega⟩
  rw [extra_Low.l0, if_neg (by omega), List.replicate_zero, List.append_nil, show i = n from by omega]
 | d + 1, i, hi, K, hK => by
  obtain ⟨m, rfl⟩ : ∃ m, K = m + 1 := ⟨K - 1, by omega⟩
  have ih := low_l0 x n hn d (i + 1) (by omega) m (by omega)
  have hs : (lowL x i ++ List.replicate (d + 1) 0).set (i : Int).toNat (lowB x i) = lowL x (i + 1) ++ List.replicate d 0 := by
   rw [show ((i : Int)).toNat = i from by omega, List.set_append_right _ _ (by rw [lowL_length]; omega), lowL_length, Nat.sub_self, List.replicate_succ, qsB]
   simp [lowL, List.range_succ]
  rw [extra_Low.l0, if_pos (by omega), w64 (n := 8 * (i : Int)) (by omega) (by omega), if_pos (by omega), if_pos (by omega), if_pos (by rw [List.length_append, lowL_length, List.length_replicate]; omega),
   show (8 * (i : Int)) = ((8 * i : Nat) : Int) from by omega]
  show extra_Low.l0 m x ((lowL x i ++ List.replicate (d + 1) 0).set (i : Int).toNat (lowB x i)) _ _ = _
  rw [hs, w64 (by omega) (by omega), show (i : Int) + 1 = ((i + 1 : Nat) : Int) from by omega]
  exact ih
theorem low_k (x : Int) (n : Nat) (hn : n ≤ 8) {k : Nat} (hk : 10 ≤ k) : extra_Low.f k x (n : Int) = some (strOfNums (lowL x n)) := by
 unfold extra_Low.f
 rw [if_pos (by omega), if_pos (by omega), show ((n : Int)).toNat = n from by omega, Option.bind_some, List.length_replicate]
 exact low_l0 x n hn n 0 (by omega) k (by omega)
def nodeOk (n : Int) : Bool := decide (0 ≤ n) && decide (n < 4)
def mayE (v : List Int) (stamp node : Int) : Bool := vok v && (decide (1 ≤ stamp) && (okc stamp && nodeOk node))
theorem strs_append (a b : List Int) : strOfNums (a ++ b) = strOfNums a ++ strOfNums b := by
 apply Go.WideShapes.bytes_inj
 rw [ByteArray.data_append, Array.toList_append, strOfNums_data, strOfNums_data, strOfNums_data, List.map_append]
theorem may_kE (a : ByteArray) (b : Bool) (v : List Int) (stamp node m : Int) (p : ByteArray) (z c : Int) {k : Nat} (hk : 5 ≤ k) : extra_May.f k a b v stamp node m p z c = some (mayE v stamp node) := by
 have hC : vector_Count.f stamp = some (okc stamp) := by
  unfold vector_Count.f okc
  by_cases h : stamp ≥ 0
  ·rw [if_pos h, decide_eq_true (p := 0 ≤ stamp) h]; simp
  ·rw [if_neg h, decide_eq_false (p := 0 ≤ stamp) h]; simp
 have hN : vector_Node.f node = some (nodeOk node) := by
  unfold vector_Node.f nodeOk
  by_cases h : node ≥ 0
  ·rw [if_pos h, decide_eq_true (p := 0 ≤ node) h]; simp
  ·rw [if_neg h, decide_eq_false (p := 0 ≤ node) h]; simp
 unfold extra_May.f mayE
 rw [may_k v hk, Option.bind_some, hC, hN]
 by_cases h1 : vok v = true
 ·rw [if_pos h1, h1]
  by_cases h2 : stamp ≥ 1
  ·rw [if_pos h2, decide_eq_true (p := 1 ≤ stamp) h2, Option.bind_some]
   by_cases h3 : okc stamp = true
   ·rw [if_pos h3, h3, Option.bind_some]; simp
   ·rw [if_neg h3, show okc stamp = false by simpa using h3]; simp
  ·rw [if_neg h2, decide_eq_false (p := 1 ≤ stamp) h2]; simp
 ·rw [if_neg h1, show vok v = false by simpa using h1]; simp
/-- A head's text. -/
def endL (stamp node : Int) (gone : Bool) : List Int := lowL stamp 4 ++ lowL node 1 ++ lowL (if gone = true then 1 else 0) 1
def putL (v : List Int) (stamp node : Int) (gone : Bool) : List Int := lowL 20592 2 ++ lowL 22 2 ++ v.flatMap (fun x => lowL x 4) ++ endL stamp node gone
theorem put_l0 (a : ByteArray) (b : Bool) (v : List Int) (stamp node m : Int) (p : ByteArray) (z c : Int) (hv : v.length ≤ 4) : ∀ (d i : Nat) (acc : List Int), i + d = v.length → acc.length + 4 * d ≤ 1000 → ∀ K, 20 + d ≤ K →
  extra_Put.l0 K (strOfNums acc) v (v.length : Int) (i : Int) a b v stamp node m p z c = some (strOfNums (acc ++ (v.drop i).flatMap (fun x => lowL x 4) ++ endL stamp node b), 0)
 | 0, i, acc, hi, ha, K, hK => by
  obtain ⟨q, rfl⟩ : ∃ q, K = q + 1 := ⟨K - 1, by omega⟩
  have e4 : extra_Low.f q stamp 4 = some (strOfNums (lowL stamp 4)) := low_k stamp 4 (by omega) (by omega)
  have e1 : ∀ x, extra_Low.f q x 1 = some (strOfNums (lowL x 1)) := fun x => low_k x 1 (by omega) (by omega)
  have hs : ∀ l : List Int, l.length ≤ 2000 → (strOfNums l).size ≤ 2000 := fun l h => by rw [strOfNums_size]; exact h
  rw [extra_Put.l0, if_neg (by omega), List.drop_eq_nil_of_le (by omega), List.flatMap_nil, List.append_nil]
  have l4 := lowL_length stamp 4
  have l1 := fun x => lowL_length x 1
  cases b
  ·rw [if_neg (by decide), e4, Option.bind_some, if_pos (by rw [strOfNums_size, strOfNums_size]; omega), e1, Option.bind_some, ← strs_append, if_pos (by rw [strOfNums_size, strOfNums_size, List.length_append, l1]; omega), e1, Option.bind_some, ← strs_append,
    if_pos (by rw [strOfNums_size, strOfNums_size, List.length_append, List.length_append, l1, l1]; omega), ← strs_append]
   simp [endL, List.append_assoc]
  ·rw [if_pos rfl, e4, Option.bind_some, if_pos (by rw [strOfNums_size, strOfNums_size]; omega), e1, Option.bind_some, ← strs_append, if_pos (by rw [strOfNums_size, strOfNums_size, List.length_append, l1]; omega), e1, Option.bind_some, ← strs_append,
    if_pos (by rw [strOfNums_size, strOfNums_size, List.length_append, List.length_append, l1, l1]; omega), ← strs_append]
   simp [endL, List.append_assoc]
 | d + 1, i, acc, hi, ha, K, hK => by
  obtain ⟨q, rfl⟩ : ∃ q, K = q + 1 := ⟨K - 1, by omega⟩
  have e4 : extra_Low.f q (rd v (i : Int)) 4 = some (strOfNums (lowL (rd v (i : Int)) 4)) := low_k _ 4 (by omega) (by omega)
  have l4 := lowL_length (rd v (i : Int)) 4
  have ih := put_l0 a b v stamp node m p z c hv d (i + 1) (acc ++ lowL (rd v (i : Int)) 4) (by omega) (by rw [List.length_append]; omega) q (by omega)
  rw [extra_Put.l0, if_pos (by omega), if_pos (by omega), if_pos (by omega), e4, Option.bind_some, if_pos (by rw [strOfNums_size, strOfNums_size]; omega), ← strs_append, w64 (by omega) (by omega), show (i : Int) + 1 = ((i + 1 : Nat) : Int) from by omega, ih, rd_drop v i (by omega)]
  simp [List.append_assoc]
theorem put_k (a : ByteArray) (b : Bool) (v : List Int) (stamp node m : Int) (p : ByteArray) (z c : Int) {k : Nat} (hk : 40 ≤ k) : extra_Put.f k a b v stamp node m p z c = some (if mayE v stamp node = true then (strOfNums (putL v stamp node b), 0) else (⟨#[]⟩, 1200)) := by
 unfold extra_Put.f
 rw [may_kE _ _ _ _ _ _ _ _ _ (by omega), Option.bind_some]
 by_cases h : mayE v stamp node = true
 ·have hv : v.length = 4 := by
   unfold mayE vok at h
   simp only [Bool.and_eq_true, decide_eq_true_eq] at h
   exact h.1.1
  have e2 : ∀ x, extra_Low.f k x 2 = some (strOfNums (lowL x 2)) := fun x => low_k x 2 (by omega) (by omega)
  rw [if_pos h, if_pos h, e2, Option.bind_some, e2, Option.bind_some, if_pos (by rw [strOfNums_size, strOfNums_size, lowL_length, lowL_length]; omega), ← strs_append]
  have := put_l0 a b v stamp node m p z c (by omega) v.length 0 (lowL 20592 2 ++ lowL 22 2) (by omega) (by rw [List.length_append, lowL_length, lowL_length]; omega) k (by omega)
  rw [List.drop_zero] at this
  exact this
 ·rw [if_neg h, if_neg h]
end Go.Proofs.YtneogampbohfnaaDoor.ZB
/- Chapter 10 over plain lists of bytes: which texts are names. -/
namespace Go.Proofs.YtneogampbohfnaaDoor.ZB
set_option linter.unusedVariables false
set_option linter.unusedSimpArgs false
open Go.RowKit Go.Proofs.YtneogampbohfnaaDoorW.PrintWords Go.Proofs.YtneogampbohfnaaDoorW.PrintLast Go.Proofs.YtneogampbohfnaaDoorW.PrintMore
def ofs : List UInt8 := [97, 98, 99, 100, 101, 102, 103, 104, 105, 106, 107, 108, 109, 110, 111, 112, 113, 114, 115, 116, 117, 118, 119, 120, 121, 122, 48, 49, 50, 51, 52, 53, 54, 55, 56, 57, 46, 45, 95]
/-- Is a list of bytes a name? -/
def nm (l : List UInt8) : Bool := decide (1 ≤ l.length) && (decide (l.length ≤ 8) && (l.all (ofs.contains ·) && (decide (l ≠ [46]) && decide (l ≠ [46, 46]))))
theorem dropWhile_nil {α : Type} (p : α → Bool) : ∀ l : List α, (l.dropWhile p = [] ↔ l.all p = true)
 | [] => by simp
 | a :: l => by
  rw [List.dropWhile_cons, List.all_cons]
  cases h : p a with
  | true => simpa using dropWhile_nil p l
  | false => simp
theorem dropWhile_all {α : Type} (p : α → Bool) : ∀ l : List α, (l.dropWhile p).all p = l.all p
 | [] => rfl
 | a :: l => by
  rw [List.dropWhile_cons, List.all_cons]
  cases h : p a with
  | true => simpa using dropWhile_all p l
  | false => simp [h]
theorem trim_nil (l cs : List UInt8) : Lib.trimS l cs = [] ↔ l.all (cs.contains ·) = true := by
 unfold Lib.trimS Lib.trimLeftS Lib.trimRightS
 rw [dropWhile_nil, List.all_reverse, dropWhile_all, List.all_reverse]
theorem size_list (s : ByteArray) : s.data.toList.length = s.size := by rw [Array.length_toList]; rfl
theorem may_eq (s : ByteArray) (h : s.size ≤ 9223372036854775807) : name_May.f s = some (nm s.data.toList) := by
 unfold name_May.f
 have hl := size_list s
 by_cases h1 : (s.size : Int) ≥ 1
 ·rw [if_pos h1]
  by_cases h2 : (s.size : Int) ≤ 8
  ·rw [if_pos h2]
   unfold strings_Trim.f
   rw [if_pos h, if_pos (by decide), if_pos (by decide +kernel), Option.bind_some]
   rw [Lib.toList_data, Lib.toList_data]
   show (if Lib.trimS s.data.toList ofs = [] then _ else _) = _
   have d1 : decide (1 ≤ s.data.toList.length) = true := decide_eq_true (by omega)
   have d2 : decide (s.data.toList.length ≤ 8) = true := decide_eq_true (by omega)
   unfold nm
   rw [d1, d2, Bool.true_and, Bool.true_and]
   by_cases h3 : Lib.trimS s.data.toList ofs = []
   ·rw [if_pos h3, (trim_nil _ _).mp h3, Bool.true_and]
    by_cases h4 : s.data.toList = [46]
    ·rw [if_pos h4, decide_eq_false (p := s.data.toList ≠ [46]) (by simpa using h4)]
     rfl
    ·rw [if_neg h4, decide_eq_true (p := s.data.toList ≠ [46]) h4, Bool.true_and]
     by_cases h5 : s.data.toList = [46, 46]
     ·rw [h5]; rfl
     ·rw [decide_eq_true (p := s.data.toList ≠ [46, 46]) h5]
      have : (s.data.toList != [46, 46]) = true := by rw [bne_iff_ne]; exact h5
      rw [this]
   ·rw [if_neg h3]
    have h6 : s.data.toList.all (ofs.contains ·) = false := by
     rw [Bool.eq_false_iff]
     exact fun h => h3 ((trim_nil _ _).mpr h)
    rw [h6, Bool.false_and]
  ·rw [if_neg h2]
   have d2 : decide (s.data.toList.length ≤ 8) = false := decide_eq_false (by omega)
   unfold nm
   rw [d2, Bool.false_and, Bool.and_false]
 ·rw [if_neg h1]
  have d1 : decide (1 ≤ s.data.toList.length) = false := decide_eq_false (by omega)
  unfold nm
  rw [d1, Bool.false_and]
theorem may_lit (l : List UInt8) (h : l.length ≤ 1000) : name_May.f (⟨l.toArray⟩ : ByteArray) = some (nm l) :=
 may_eq ⟨l.toArray⟩ (by show l.toArray.size ≤ _; simp only [List.size_toArray]; omega)
end Go.Proofs.YtneogampbohfnaaDoor.ZB
/- strings.Builder, of whatever type its block is told (a struct that holds one first): what its methods do, and what they leave alone: WriteString, Len, String. -/
namespace Go.Proofs.YtneogampbohfnaaDoor.BldA
open Go.RowKit Go.Proofs.YtneogampbohfnaaDoorW.PrintWords Go.Proofs.YtneogampbohfnaaDoorW.PrintLast Go.Proofs.YtneogampbohfnaaDoorW.PrintMore
set_option linter.unusedVariables false
set_option linter.unusedSimpArgs false
theorem info5 : (Tryd.prog.info? 5).map (fun i => (i.zero, i.size, i.bytes)) = some (some (.int .u8 0), 1, 1) := by kernel_rfl
theorem info75 : (Tryd.prog.info? 75).map (·.size) = some 2 := by kernel_rfl
/-- A type whose variable holds a builder first. -/
def Lies (T : Nat) : Prop := liesAt Tryd.prog Tryd.prog.depth T (2 / Tryd.prog.cellsOf T) 0 75 1 = true ∧ T ≠ 5
theorem lies75 : Lies 75 := ⟨by kernel_rfl, by decide⟩
theorem lies77 : Lies 77 := ⟨by kernel_rfl, by decide⟩
/-- A builder at block b, its bytes in a row of the call's own. -/
structure BA (W : World) (base T b : Nat) (v : Value) (s : ByteArray) : Prop where
 ge : base ≤ b
 at_ : ∃ p : Value, (p = .pointer none ∨ p = .pointer (some ⟨b, 0, none⟩)) ∧ W.heap[b]? = some (.cells #[p, v] T (0, 0))
 row : W.ownsRow base 5 1 v s.size (Lib.strCells s)
 ne : v.ownBlock ≠ some b
 nil : s.size = 0 → v = .slice none 0 0
theorem BA.move {W W1 : World} {base T b : Nat} {v : Value} {s : ByteArray} (h : BA W base T b v s) (hb : W1.heap[b]? = W.heap[b]?) (hv : ∀ k, v.ownBlock = some k → W1.heap[k]? = W.heap[k]?) : BA W1 base T b v s := by
 obtain ⟨p, hp, hc⟩ := h.at_
 exact ⟨h.ge, ⟨p, hp, hb.trans hc⟩, own_move h.row hv, h.ne, h.nil⟩
theorem BA.lt {W : World} {base T b : Nat} {v : Value} {s : ByteArray} (h : BA W base T b v s) : b < W.heap.size := by
 obtain ⟨p, hp, hc⟩ := h.at_
 exact blk_lt hc
theorem BA.row_lt {W : World} {base T b : Nat} {v : Value} {s : ByteArray} (h : BA W base T b v s) (k : Nat) (hk : v.ownBlock = some k) : k < W.heap.size := own_lt h.row k hk
theorem BA.below {W W1 : World} {base T b : Nat} {v : Value} {s : ByteArray} (h : BA W base T b v s) (hb : Below W.heap.size W W1) : BA W1 base T b v s := h.move (hb.block b h.lt) fun k hk => hb.block k (h.row_lt k hk)
theorem BA.new (W : World) (base T : Nat) (hb : base ≤ W.heap.size) : BA (W.alloc (.cells #[.pointer none, .slice none 0 0] T)) base T W.heap.size (.slice none 0 0) ⟨#[]⟩ :=
 ⟨hb, ⟨_, .inl rfl, heap_alloc_new W _⟩, own_nil _ _ _ _, by simp [Value.ownBlock], fun _ => rfl⟩
set_option maxHeartbeats 2000000 in
set_option maxRecDepth 100000 in
theorem check_used (b : Nat) (w : World) (h0 : w.cell? ⟨b, 0, none⟩ = some (.pointer (some ⟨b, 0, none⟩))) :
  Calls Tryd.prog 79 #[.pointer (some ⟨b, 0, none⟩)] w fun e w' => e = .returned (.tuple #[]) ∧ w' = w := by
 obtain ⟨j, hj, _⟩ := Option.map_eq_some_iff.1 info75
 go_enter Tryd.func79, Tryd.ntmps79
 go_wp2
 rw [Lib.run_neq_ptr_same w _ Tryd.underlying73 hj]
 go_wp2
 go_end0
 exact ⟨rfl, rfl⟩
set_option maxHeartbeats 2000000 in
set_option maxRecDepth 100000 in
theorem check_fresh (T b : Nat) (hT : Lies T) (w : World) (h0 : w.cell? ⟨b, 0, none⟩ = some (.pointer none)) (hsh : w.shape? b = some (T, 2)) (hfz : w.frozen? ⟨b, 0, none⟩ = false) :
  Calls Tryd.prog 79 #[.pointer (some ⟨b, 0, none⟩)] w fun e w' => e = .returned (.tuple #[]) ∧ w' = w.setCell ⟨b, 0, none⟩ (.pointer (some ⟨b, 0, none⟩)) := by
 obtain ⟨j, hj, hjs⟩ := Option.map_eq_some_iff.1 info75
 have hl := hT.1
 have HL := qas hl
 clear hl hT
 go_enter Tryd.func79, Tryd.ntmps79
 go_wp2
 rw [Lib.run_to_unsafe w ⟨b, 0, none⟩ Tryd.underlying73 Tryd.underlying132 hj (by rw [hjs]; decide) hsh (Nat.zero_lt_succ 1)]
 simp only [Result.andThen]
 rw [Oper.upon_value]
 go_wp2
 rw [run_callFunc_extern Tryd.func100 (by kernel_rfl) (by kernel_rfl) (by kernel_rfl) (e := Extern.AbiNoEscape.same) (by kernel_rfl)]
 rw [Lib.run_noEscape]
 simp only [Result.andThen]
 rw [Oper.upon_value]
 go_wp2
 rw [Lib.run_from_unsafe w ⟨b, 0, none⟩ Tryd.underlying132 Tryd.underlying73 hj hsh HL.out]
 simp only [Result.andThen]
 rw [Oper.upon_value]
 go_wp2
 go_end0
 exact ⟨rfl, rfl⟩
/-- Behind copyCheck. -/
def Checked (w : World) (base T b : Nat) (v : Value) (s : ByteArray) (e : Ending) (w' : World) : Prop := e = .returned (.tuple #[]) ∧ BA w' base T b v s ∧ w'.heap[b]? = some (.cells #[.pointer (some ⟨b, 0, none⟩), v] T (0, 0)) ∧ Kept w w' (fun k => k = b) ∧ Below base w w'
theorem check_any (w : World) (base T b : Nat) (v : Value) (s : ByteArray) (hT : Lies T) (h : BA w base T b v s) : Calls Tryd.prog 79 #[.pointer (some ⟨b, 0, none⟩)] w (Checked w base T b v s) := by
 obtain ⟨p, hp, hc⟩ := h.at_
 rcases hp with rfl | rfl
 ·refine (check_fresh T b hT w ((blk_cell hc 0).trans rfl) (by simp [World.shape?, hc]) (blk_frozen hc 0)).mono fun e w' ⟨he, hw⟩ => ?_
  subst hw
  have hset : (w.setCell ⟨b, 0, none⟩ (.pointer (some ⟨b, 0, none⟩))).heap[b]? = some (.cells #[.pointer (some ⟨b, 0, none⟩), v] T (0, 0)) := blk_put hc 0 _ rfl
  refine ⟨he, ⟨h.ge, ⟨_, .inr rfl, hset⟩, own_move h.row fun k hk => Below.heap_setCell w ⟨b, 0, none⟩ _ k (fun e => h.ne (by rw [hk, e])), h.ne, h.nil⟩, hset, ?_, (Below.refl base w).setCell (p := ⟨b, 0, none⟩) h.ge _⟩
  exact Kept.setCell (Kept.refl w (fun k => k = b)) (p := ⟨b, 0, none⟩) (Or.inl (Eq.refl b)) _
 ·refine (check_used b w ((blk_cell hc 0).trans rfl)).mono fun e w' ⟨he, hw⟩ => ?_
  subst hw
  exact ⟨he, h, hc, Kept.refl _ _, Below.refl _ _⟩
/-- An append of a string's bytes, and where the row lies behind it. -/
theorem append_str (w : World) (base : Nat) (v : Value) (s x : ByteArray) (ty : TypeId) (hown : w.ownsRow base 5 1 v s.size (Lib.strCells s)) (hlen : s.size + x.size ≤ 140737488355328) (hbase : base ≤ w.heap.size) :
  ∃ v' w', (Builtin.append_ #[43, 9] ty #[v, .string x]).run Tryd.prog w = .ok v' w' ∧ w'.ownsRow base 5 1 v' (s ++ x).size (Lib.strCells (s ++ x)) ∧ w.grownBy w' v.ownBlock ∧ (∀ k, v'.ownBlock = some k → v.ownBlock = some k ∨ w.heap.size ≤ k) ∧ (v = .slice none 0 0 ∧ x.size = 0 → v' = .slice none 0 0) := by
 obtain ⟨i0, hi, hz0, hz1, hz2⟩ := info_parts info5
 obtain ⟨v', w', hr, ho, hg, hnil⟩ := Lib.run_append_own_string (P := Tryd.prog) w base 43 9 ty 5 i0 Tryd.underlying43 Tryd.underlying9 hi hz0 hz1 hz2 v s.size (Lib.strCells s) hown x (by unfold maxLen; omega) hlen hbase
 have e1 : (s ++ x).size = s.size + x.size := ByteArray.size_append
 have e2 : Lib.strCells (s ++ x) = Lib.strCells s ++ Lib.strCells x := by unfold Lib.strCells; rw [show (s ++ x).data = s.data ++ x.data from ByteArray.data_append]; simp
 refine ⟨v', w', hr, by rw [e1, e2]; exact ho, hg, ?_, hnil.2⟩
 rcases hown.2 with ⟨rfl, hn⟩ | ⟨g, cap, cur, rfl, hbg, hgc, hnc, hcm, hcs, htake⟩
 ·by_cases hx : x.size = 0
  ·rw [hnil.2 ⟨rfl, hx⟩]
   intro k hk
   simp [Value.ownBlock] at hk
  ·have hr2 := run_append_nil_string (P := Tryd.prog) w 43 9 ty 5 i0 (.int .u8 0) Tryd.underlying43 Tryd.underlying9 hi hz0 x (by omega) (by omega) (by rw [hz2]; omega)
   rw [hr2] at hr
   injection hr with h1 h2
   subst h1
   intro k hk
   have : w.heap.size = k := by simpa [Value.ownBlock] using hk
   exact .inr (by omega)
 ·by_cases hroom : s.size + x.size ≤ cap
  ·have hr2 := Lib.run_append_room_string (P := Tryd.prog) w 43 9 ty 5 i0 Tryd.underlying43 Tryd.underlying9 hi hz1 g s.size cap cur hgc x hroom (by omega)
   rw [hr2] at hr
   injection hr with h1 h2
   subst h1
   intro k hk
   exact .inl hk
  ·have hxl : (Lib.strCells s).length = s.size := Lib.strCells_length s
   have hr2 := Lib.run_append_grow_string (P := Tryd.prog) w 43 9 ty 5 i0 (.int .u8 0) Tryd.underlying43 Tryd.underlying9 hi hz0 ⟨g, 0, none⟩ s.size cap (Lib.strCells s) (by rw [hz1, hxl, Nat.mul_one]) (hown.cells (g := g) rfl) x (by omega) (by omega) (by rw [hz2]; exact growslice_fits (by omega) (by omega))
   rw [hr2] at hr
   injection hr with h1 h2
   subst h1
   intro k hk
   have : w.heap.size = k := by simpa [Value.ownBlock] using hk
   exact .inr (by omega)
/-- What a write leaves. -/
def Wrote (w : World) (base T b : Nat) (v : Value) (s : ByteArray) (w' : World) : Prop := ∃ v' : Value, BA w' base T b v' s ∧ Below base w w' ∧ Kept w w' (fun k => k = b ∨ v.ownBlock = some k) ∧ (∀ k, v'.ownBlock = some k → v.ownBlock = some k ∨ w.heap.size ≤ k)
section
variable {ops : Array Oper} {rest : List Oper} {o : Oper} {a : Act} {Q : Exit → Act → World → Prop}
theorem wpList_append_str (w : World) (hgd : o.guard = none) (sl x : Operand) (ho : o.op = .call { callee := .builtin .append, args := #[sl, x], argTypes := #[43, 9] })
  (base : Nat) (v : Value) (s y : ByteArray) (hs : a.eval sl = v) (hown : w.ownsRow base 5 1 v s.size (Lib.strCells s)) (hx : a.eval x = .string y) (hlen : s.size + y.size ≤ 140737488355328) (hbase : base ≤ w.heap.size)
  (h : ∀ v' w', w'.ownsRow base 5 1 v' (s ++ y).size (Lib.strCells (s ++ y)) → w.grownBy w' v.ownBlock → (∀ k, v'.ownBlock = some k → v.ownBlock = some k ∨ w.heap.size ≤ k) → (v = .slice none 0 0 ∧ y.size = 0 → v' = .slice none 0 0) → wpList Tryd.prog ops Q rest (a.put o.dst v') w') : wpList Tryd.prog ops Q (o :: rest) a w := by
 refine wpList_plain hgd fun K hK => ?_
 obtain ⟨v', w', hr, h2, h3, h4, h5⟩ := append_str w base v s y o.type hown hlen hbase
 unfold Oper.wp execOp
 simp only [ho, resolve, invoke, builtin, Sem.run_bind, Sem.run_pure, Result.andThen_ok, List.map_toArray, List.map_cons, List.map_nil, hs, hx, hr]
 exact hK _ _ (h v' w' h2 h3 h4 h5)
end
set_option maxHeartbeats 8000000 in
set_option maxRecDepth 100000 in
theorem write_any (w : World) (base T b : Nat) (v : Value) (s x : ByteArray) (hT : Lies T) (h : BA w base T b v s) (hlen : s.size + x.size ≤ 140737488355328) (hbase : base ≤ w.heap.size) :
  Calls Tryd.prog 46 #[.pointer (some ⟨b, 0, none⟩), .string x] w fun e w' => e = .returned (.tuple #[.int .i64 x.size, .nilIface]) ∧ Wrote w base T b v (s ++ x) w' := by
 have HH := qas h
 have HT := qas hT
 have HL := qas hlen
 have HBB := qas hbase
 have hxs : (x.size : Int) ≤ 140737488355328 := by omega
 have hxs0 : (0 : Int) ≤ (x.size : Int) := by omega
 clear h hT hlen hbase
 go_enter Tryd.func46, Tryd.ntmps46
 go_wp2_with (first
  | (go_at_call 79; (with_reducible refine (check_any w base T b v s HT.out HH.out).mono ?_); rintro e w1 ⟨rfl, k1, k2, k3, k4⟩; have hcv : w1.cell? ⟨b, 1, none⟩ = some v := (blk_cell k2 1).trans rfl; have K1 := qas k1; have K2 := qas k2; have K3 := qas k3; have K4 := qas k4; clear k1 k2 k3 k4)
  | (at_builtin; refine wpList_append_str _ rfl _ _ rfl base v s x rfl K1.out.row rfl HL.out (by have := K4.out.size; have := HBB.out; omega) ?_; intro v' w2 ho hg hloc hnl; obtain ⟨A, c, hv'⟩ := own_slice ho; subst hv'; have N1 := qas hnl; clear hnl; have hlt : b < w1.heap.size := blk_lt K2.out; have hb2 : w2.heap[b]? = some (.cells #[.pointer (some ⟨b, 0, none⟩), v] T (0, 0)) := (hg.block b hlt (fun e => HH.out.ne e.symm)).trans K2.out; have hf : w2.frozen? ⟨b, 1, none⟩ = false := blk_frozen hb2 1; have hc2 : w2.cell? ⟨b, 1, none⟩ = some v := (blk_cell hb2 1).trans rfl; have O1 := qas ho; have G1 := qas hg; have B1 := qas hb2; have L1 := qas hloc; clear ho hg hloc hb2 hlt))
 go_ret2
 have e1 : (s ++ x).size = s.size + x.size := ByteArray.size_append
 have o1 := O1.out
 have l1 := L1.out
 rw [e1] at o1 l1
 have hne : (Value.slice A (s.size + x.size) c).ownBlock ≠ some b := fun hk => by
  rcases l1 b hk with h | h
  ·exact HH.out.ne h
  ·have := blk_lt K2.out
   omega
 have hk : Kept w (w2.setCell ⟨b, 1, none⟩ (.slice A (s.size + x.size) c)) (fun k => k = b ∨ v.ownBlock = some k) := by
  have h1 : Kept w w1 (fun k => k = b ∨ v.ownBlock = some k) := K3.out.mono fun k e => .inl e
  have h2 := Kept.of_grown G1.out h1 (fun k hk => .inl (.inr hk))
  exact Kept.setCell h2 (p := ⟨b, 1, none⟩) (.inl (.inl (Eq.refl b))) _
 refine ⟨rfl, _, ⟨HH.out.ge, ⟨_, .inr rfl, blk_put B1.out 1 _ rfl⟩, ?_, hne, fun hz => ?_⟩, ?_, hk, fun k hk' => ?_⟩
 ·refine own_move (by rw [e1]; exact o1) fun k hk => Below.heap_setCell w2 ⟨b, 1, none⟩ _ k (fun e => hne (by rw [hk, e]))
 ·have hz2 : s.size = 0 ∧ x.size = 0 := by omega
  have := N1.out ⟨HH.out.nil hz2.1, hz2.2⟩
  rw [e1] at this
  exact this
 ·exact (K4.out.grown G1.out (by have := K4.out.size; have := HBB.out; omega) (own_base HH.out.row)).setCell (p := ⟨b, 1, none⟩) HH.out.ge _
 ·rcases l1 k hk' with h | h
  ·exact .inl h
  ·exact .inr (by have := K3.out.1; omega)
set_option maxHeartbeats 8000000 in
set_option maxRecDepth 100000 in
theorem len_b (w : World) (base T b : Nat) (v : Value) (s : ByteArray) (h : BA w base T b v s) : Calls Tryd.prog 49 #[.pointer (some ⟨b, 0, none⟩)] w fun e w' => e = .returned (.int .i64 s.size) ∧ w' = w := by
 obtain ⟨p, hp, hc⟩ := h.at_
 obtain ⟨A, c, hv⟩ := own_slice h.row
 subst hv
 have hcv : w.cell? ⟨b, 1, none⟩ = some (.slice A s.size c) := (blk_cell hc 1).trans rfl
 clear h hc
 go_enter Tryd.func49, Tryd.ntmps49
 go_wp2
 go_ret
 exact ⟨rfl, rfl⟩
theorem unsafe_none (W : World) (q : Option Addr) : (Builtin.unsafeString_ #[119, 3] 9 #[.pointer q, .int .i64 0]).run Tryd.prog W = .ok (.string .empty) W := Lib.run_unsafeString_none W _ _ _ q
/-- What String leaves alone. -/
def Told (w : World) (base : Nat) (v : Value) (w' : World) : Prop := Below base w w' ∧ Kept w w' (fun k => v.ownBlock = some k)
theorem kept_freeze (W : World) (g n : Nat) : Kept W (W.freeze ⟨g, 0, none⟩ n) (fun k => k = g) := by
 unfold World.freeze
 split
 ·exact Kept.refl _ _
 ·refine ⟨by simp, fun i hi hn => ?_⟩
  simp only [Array.getElem?_modify]
  rw [if_neg (fun e => hn e.symm)]
set_option maxHeartbeats 8000000 in
set_option maxRecDepth 100000 in
theorem string_some (w : World) (base T b : Nat) (v : Value) (s : ByteArray) (h : BA w base T b v s) (h0 : 0 < s.size) : Calls Tryd.prog 51 #[.pointer (some ⟨b, 0, none⟩)] w fun e w' => e = .returned (.string s) ∧ Told w base v w' := by
 obtain ⟨p, hp, hc⟩ := h.at_
 obtain ⟨g, cap, hv, hg0, hg1⟩ := h.row.form h0
 subst hv
 obtain ⟨l, hl⟩ : ∃ l : List UInt8, s.data.toList = l := ⟨_, rfl⟩
 have hll : l.length = s.size := by rw [← hl]; exact data_length s
 have c1 : w.drew.cell? ⟨b, 1, none⟩ = some (.slice (some ⟨g, 0, none⟩) s.size cap) := (blk_cell (w := w.drew) hc 1).trans rfl
 have hcap : s.size ≤ cap := own_cap h.row
 obtain ⟨cur, hgc, hcs, hcm⟩ : ∃ cur, w.heap[g]? = some (.cells cur 5 (0, 0)) ∧ cur.size = cap ∧ cap ≤ maxLen := by
  rcases h.row.2 with ⟨hv, _⟩ | ⟨g', cap', cur, hv, _, hgc, _, hm, hcs, _⟩
  ·cases hv
  ·injection hv with h1 h2 h3
   injection h1 with h1
   injection h1 with h1
   subst h1 h3
   exact ⟨cur, hgc, by simpa using hcs, hm⟩
 have hSD : (Builtin.unsafeSliceData_ #[43] 119 #[.slice (some ⟨g, 0, none⟩) s.size cap]).run Tryd.prog w.drew = .ok (.pointer (some ⟨g, 0, none⟩)) w.drew :=
  Lib.run_unsafeSliceData_row _ _ _ _ _ _ (by omega)
 have hes : (⟨l.toArray⟩ : ByteArray) = s := by rw [← hl]
 have hUS : (Builtin.unsafeString_ #[119, 3] 9 #[.pointer (some ⟨g, 0, none⟩), .int .i64 (s.size : Int)]).run Tryd.prog w.drew = .ok (.string s) (w.drew.freeze ⟨g, 0, none⟩ s.size) := by
  have := Lib.run_unsafeString_row (P := Tryd.prog) w.drew 119 3 9 5 Tryd.underlying119 (by kernel_rfl) g cur.size (by have hg' : w.drew.heap[g]? = some (.cells cur 5 (0, 0)) := hgc; simp [World.shape?, hg']) l (fun e => by rw [e] at hll; simp at hll; omega) (by omega) (by unfold maxLen at hcm; omega) (fun j x hx => by
   have := h.row.cells (g := g) rfl j (.int .u8 x.toNat) (by unfold Lib.strCells; rw [hl]; simp [hx])
   exact this)
  rw [hll, hes] at this
  exact this
 have HB := qas (own_base h.row g rfl)
 clear h hc hl hll hes hgc hcs hcm hg0 hg1
 go_enter Tryd.func51, Tryd.ntmps51
 go_wp2_with fail
 go_region_with (fail)
 all_goals go_wp2
 all_goals go_ret
 all_goals exact ⟨rfl, Lib.below_freeze (below_drew (Below.refl _ _)) (p := ⟨g, 0, none⟩) HB.out _, (kept_freeze w.drew g s.size).mono fun k e => by rw [e]; rfl⟩
set_option maxHeartbeats 8000000 in
set_option maxRecDepth 100000 in
theorem string_none (w : World) (base T b : Nat) (v : Value) (s : ByteArray) (h : BA w base T b v s) (h0 : s.size = 0) : Calls Tryd.prog 51 #[.pointer (some ⟨b, 0, none⟩)] w fun e w' => e = .returned (.string s) ∧ Told w base v w' := by
 obtain ⟨p, hp, hc⟩ := h.at_
 have hv := h.nil h0
 subst hv
 have hs : s = ByteArray.empty := by
  have h1 : s.data.toList.length = 0 := by rw [data_length, h0]
  have h2 : s.data.toList = [] := List.eq_nil_of_length_eq_zero h1
  have h3 : s.data = #[] := Array.toList_inj.1 h2
  exact ByteArray.ext h3
 have c1 : w.drew.cell? ⟨b, 1, none⟩ = some (.slice none 0 0) := (blk_cell (w := w.drew) hc 1).trans rfl
 have hUS := unsafe_none w.drew none
 have hSD : (Builtin.unsafeSliceData_ #[43] 119 #[.slice none 0 0]).run Tryd.prog w.drew = .ok (.pointer none) w.drew := rfl
 rw [hs]
 clear h hc
 go_enter Tryd.func51, Tryd.ntmps51
 go_wp2_with fail
 go_region_with (fail)
 all_goals go_wp2
 all_goals go_ret
 all_goals exact ⟨rfl, below_drew (Below.refl _ _), Kept.refl _ _⟩
theorem string_any (w : World) (base T b : Nat) (v : Value) (s : ByteArray) (h : BA w base T b v s) : Calls Tryd.prog 51 #[.pointer (some ⟨b, 0, none⟩)] w fun e w' => e = .returned (.string s) ∧ Told w base v w' := by
 rcases Nat.eq_zero_or_pos s.size with h0 | h0
 ·exact string_none w base T b v s h h0
 ·exact string_some w base T b v s h h0
end Go.Proofs.YtneogampbohfnaaDoor.BldA
/- The walks of zipput over entries that are read where they stand: extra.May, content, May, size. -/
namespace Go.Proofs.YtneogampbohfnaaDoor.ZipW
open Go.RowKit Go.Proofs.YtneogampbohfnaaDoorW.PrintWords Go.Proofs.YtneogampbohfnaaDoorW.PrintLast Go.Proofs.YtneogampbohfnaaDoorW.PrintMore Go.Proofs.YtneogampbohfnaaDoor.ZB
set_option linter.unusedVariables false
set_option linter.unusedSimpArgs false
/-- An entry at an address, read. -/
structure Ent (w : World) (ad : Addr) (x : S39) (A2 : Option Addr) (c2 : Nat) : Prop where
 h0 : w.cell? ad = some (.string x.f0)
 h1 : w.cell? ⟨ad.block, ad.off + 1, none⟩ = some (.bool x.f1)
 h2 : w.cell? ⟨ad.block, ad.off + 2, none⟩ = some (.slice A2 x.f2.length c2)
 h3 : w.cell? ⟨ad.block, ad.off + 3, none⟩ = some (.int .i64 x.f3)
 h4 : w.cell? ⟨ad.block, ad.off + 4, none⟩ = some (.int .i64 x.f4)
 h5 : w.cell? ⟨ad.block, ad.off + 5, none⟩ = some (.int .i64 x.f5)
 h6 : w.cell? ⟨ad.block, ad.off + 6, none⟩ = some (.string x.f6)
 h7 : w.cell? ⟨ad.block, ad.off + 7, none⟩ = some (.int .i64 x.f7)
 h8 : w.cell? ⟨ad.block, ad.off + 8, none⟩ = some (.int .i64 x.f8)
 hl : x.f2.length ≤ c2
 hr : (Kd.int .i64).C w A2 x.f2.length x.f2
theorem Ent.below {w W : World} {ad : Addr} {x : S39} {A2 : Option Addr} {c2 : Nat} (h : Ent w ad x A2 c2) (hb : Below w.heap.size w W) : Ent W ad x A2 c2 :=
 ⟨pw_cell_below hb h.h0, pw_cell_below hb h.h1, pw_cell_below hb h.h2, pw_cell_below hb h.h3, pw_cell_below hb h.h4, pw_cell_below hb h.h5, pw_cell_below hb h.h6, pw_cell_below hb h.h7, pw_cell_below hb h.h8, h.hl, Kd.C_below h.hr hb⟩
theorem Ent.drewN {w : World} {ad : Addr} {x : S39} {A2 : Option Addr} {c2 : Nat} (h : Ent w ad x A2 c2) (n : Nat) : Ent (w.drewN n) ad x A2 c2 := h.below (qbB (Below.refl _ _) n)
theorem ent_at {w : World} {A : Option Addr} {xs : List S39} (h : Kd.C k39 w A xs.length xs) (i : Nat) (hi : i < xs.length) : ∃ ad A2 c2, A = some ad ∧ Ent w (ad.add (i * 9)) (rd_T39 xs (i : Int)) A2 c2 := by
 obtain ⟨ad, A2, c2, e, h0, h1, h2, h3, h4, h5, h6, h7, h8, hl, hr⟩ := at_T39 h (i : Int) (by omega) (by omega)
 rw [Int.toNat_natCast] at h0 h1 h2 h3 h4 h5 h6 h7 h8
 exact ⟨ad, A2, c2, e, h0, h1, h2, h3, h4, h5, h6, h7, h8, hl, hr⟩
def kept (x : S39) : Bool := decide (0 ≤ x.f7) && (decide (x.f7 ≤ 300) && (decide (0 ≤ x.f8) && decide (x.f8 ≤ 4294967295)))
/-- May what an entry has be? -/
def content (x : S39) : Bool := if x.f1 = true then decide (x.f5 = 0) && (decide (x.f6.size = 0) && (decide (x.f7 = 0) && decide (x.f8 = 0))) else if x.f5 = 0 then decide ((x.f6.size : Int) = x.f7) && kept x else if x.f5 = 8 then decide (x.f6.size ≤ 300) && kept x else false
theorem crc_at (n : Int) : crc_Is.f n = some (decide (0 ≤ n) && decide (n ≤ 4294967295)) := by
 unfold crc_Is.f
 by_cases h : n ≥ 0
 ·rw [if_pos h, decide_eq_true (p := 0 ≤ n) h]; simp
 ·rw [if_neg h, decide_eq_false (p := 0 ≤ n) h]; simp
theorem count_at (n : Int) : vector_Count.f n = some (okc n) := by
 unfold vector_Count.f okc
 by_cases h : n ≥ 0
 ·rw [if_pos h, decide_eq_true (p := 0 ≤ n) h]; simp
 ·rw [if_neg h, decide_eq_false (p := 0 ≤ n) h]; simp
theorem node_at (n : Int) : vector_Node.f n = some (nodeOk n) := by
 unfold vector_Node.f nodeOk
 by_cases h : n ≥ 0
 ·rw [if_pos h, decide_eq_true (p := 0 ≤ n) h]; simp
 ·rw [if_neg h, decide_eq_false (p := 0 ≤ n) h]; simp
theorem empty_iff (s : ByteArray) : s.toList = ([] : List UInt8) ↔ s.size = 0 := by
 rw [Lib.toList_data]
 constructor
 ·intro h
  have := size_list s
  rw [h] at this
  simpa using this.symm
 ·intro h
  exact List.eq_nil_of_length_eq_zero ((size_list s).trans h)
section
variable (w : World) (ad : Addr) (x : S39) (A2 : Option Addr) (c2 : Nat)
set_option maxHeartbeats 8000000 in
set_option maxRecDepth 100000 in
theorem emay_a (hE : Ent w ad x A2 c2) (v1 : vok x.f2 = false) : Calls Tryd.prog 56 #[.pointer (some ad)] w fun e w' => e = .returned (.bool false) ∧ Drawn0 w w' := by
 obtain ⟨h0, h1, h2, h3, h4, h5, h6, h7, h8, hl, hr⟩ := hE
 have HE := qas (⟨h0, h1, h2, h3, h4, h5, h6, h7, h8, hl, hr⟩ : Ent w ad x A2 c2)
 have HL := qas hl
 have HR := qas hr
 clear hl hr
 have V1 : Aside0 (vector_May.f 5 x.f2 = some false) := ⟨by rw [may_k x.f2 (by decide), v1]⟩
 go_enter Tryd.func56, Tryd.ntmps56
 go_wp2_with (first | (go_at_call 84; (with_reducible refine (vector_May.calls 5 A2 c2 x.f2 false _ (by first | exact HR.out | exact Kd.C_drewN HR.out _) HL.out V1.out).mono ?_); rintro e w1 ⟨rfl, ⟨nd, rfl⟩⟩))
 go_ret
 exact ⟨rfl, by repeat (first | exact Drawn0.refl _ | apply Drawn0.step)⟩
set_option maxHeartbeats 8000000 in
set_option maxRecDepth 100000 in
theorem emay_b (hE : Ent w ad x A2 c2) (v1 : vok x.f2 = true) (s1 : ¬ 1 ≤ x.f3) : Calls Tryd.prog 56 #[.pointer (some ad)] w fun e w' => e = .returned (.bool false) ∧ Drawn0 w w' := by
 obtain ⟨h0, h1, h2, h3, h4, h5, h6, h7, h8, hl, hr⟩ := hE
 have HE := qas (⟨h0, h1, h2, h3, h4, h5, h6, h7, h8, hl, hr⟩ : Ent w ad x A2 c2)
 have HL := qas hl
 have HR := qas hr
 clear hl hr
 have V1 : Aside0 (vector_May.f 5 x.f2 = some true) := ⟨by rw [may_k x.f2 (by decide), v1]⟩
 have sb : decide (x.f3 ≥ 1) = false := decide_eq_false s1
 have sc : decide (1 ≤ x.f3) = false := decide_eq_false s1
 go_enter Tryd.func56, Tryd.ntmps56
 go_wp2_with (first | (go_at_call 84; (with_reducible refine (vector_May.calls 5 A2 c2 x.f2 true _ (by first | exact HR.out | exact Kd.C_drewN HR.out _) HL.out V1.out).mono ?_); rintro e w1 ⟨rfl, ⟨nd, rfl⟩⟩))
 go_ret
 exact ⟨rfl, by repeat (first | exact Drawn0.refl _ | apply Drawn0.step)⟩
set_option maxHeartbeats 8000000 in
set_option maxRecDepth 100000 in
theorem emay_c (hE : Ent w ad x A2 c2) (v1 : vok x.f2 = true) (s1 : 1 ≤ x.f3) (v2 : okc x.f3 = false) : Calls Tryd.prog 56 #[.pointer (some ad)] w fun e w' => e = .returned (.bool false) ∧ Drawn0 w w' := by
 obtain ⟨h0, h1, h2, h3, h4, h5, h6, h7, h8, hl, hr⟩ := hE
 have HE := qas (⟨h0, h1, h2, h3, h4, h5, h6, h7, h8, hl, hr⟩ : Ent w ad x A2 c2)
 have HL := qas hl
 have HR := qas hr
 clear hl hr
 have V1 : Aside0 (vector_May.f 5 x.f2 = some true) := ⟨by rw [may_k x.f2 (by decide), v1]⟩
 have V2 : Aside0 (vector_Count.f x.f3 = some false) := ⟨by rw [count_at, v2]⟩
 have sb : decide (x.f3 ≥ 1) = true := decide_eq_true s1
 have sc : decide (1 ≤ x.f3) = true := decide_eq_true s1
 go_enter Tryd.func56, Tryd.ntmps56
 go_wp2_with (first | (go_at_call 84; (with_reducible refine (vector_May.calls 5 A2 c2 x.f2 true _ (by first | exact HR.out | exact Kd.C_drewN HR.out _) HL.out V1.out).mono ?_); rintro e w1 ⟨rfl, ⟨nd, rfl⟩⟩) | (go_at_call 85; (with_reducible refine (vector_Count.calls x.f3 false _ V2.out).mono ?_); rintro e w2 ⟨rfl, ⟨nd2, rfl⟩⟩))
 go_ret
 exact ⟨rfl, by repeat (first | exact Drawn0.refl _ | apply Drawn0.step)⟩
set_option maxHeartbeats 8000000 in
set_option maxRecDepth 100000 in
theorem emay_d (hE : Ent w ad x A2 c2) (v1 : vok x.f2 = true) (s1 : 1 ≤ x.f3) (v2 : okc x.f3 = true) (b : Bool) (v3 : nodeOk x.f4 = b) : Calls Tryd.prog 56 #[.pointer (some ad)] w fun e w' => e = .returned (.bool b) ∧ Drawn0 w w' := by
 obtain ⟨h0, h1, h2, h3, h4, h5, h6, h7, h8, hl, hr⟩ := hE
 have HE := qas (⟨h0, h1, h2, h3, h4, h5, h6, h7, h8, hl, hr⟩ : Ent w ad x A2 c2)
 have HL := qas hl
 have HR := qas hr
 clear hl hr
 have V1 : Aside0 (vector_May.f 5 x.f2 = some true) := ⟨by rw [may_k x.f2 (by decide), v1]⟩
 have V2 : Aside0 (vector_Count.f x.f3 = some true) := ⟨by rw [count_at, v2]⟩
 have V3 : Aside0 (vector_Node.f x.f4 = some b) := ⟨by rw [node_at, v3]⟩
 have sb : decide (x.f3 ≥ 1) = true := decide_eq_true s1
 have sc : decide (1 ≤ x.f3) = true := decide_eq_true s1
 go_enter Tryd.func56, Tryd.ntmps56
 go_wp2_with (first | (go_at_call 84; (with_reducible refine (vector_May.calls 5 A2 c2 x.f2 true _ (by first | exact HR.out | exact Kd.C_drewN HR.out _) HL.out V1.out).mono ?_); rintro e w1 ⟨rfl, ⟨nd, rfl⟩⟩) | (go_at_call 85; (with_reducible refine (vector_Count.calls x.f3 true _ V2.out).mono ?_); rintro e w2 ⟨rfl, ⟨nd2, rfl⟩⟩) | (go_at_call 76; (with_reducible refine (vector_Node.calls x.f4 b _ V3.out).mono ?_); rintro e w3 ⟨rfl, ⟨nd3, rfl⟩⟩))
 go_ret
 exact ⟨rfl, by repeat (first | exact Drawn0.refl _ | apply Drawn0.step)⟩
theorem emay_any (hE : Ent w ad x A2 c2) : Calls Tryd.prog 56 #[.pointer (some ad)] w fun e w' => e = .returned (.bool (mayE x.f2 x.f3 x.f4)) ∧ Drawn0 w w' := by
 unfold mayE
 cases v1 : vok x.f2 with
 | false => exact emay_a w ad x A2 c2 hE v1
 | true =>
  by_cases s1 : 1 ≤ x.f3
  ·rw [decide_eq_true s1]
   cases v2 : okc x.f3 with
   | false => exact emay_c w ad x A2 c2 hE v1 s1 v2
   | true => exact emay_d w ad x A2 c2 hE v1 s1 v2 _ rfl
  ·rw [decide_eq_false s1]
   exact emay_b w ad x A2 c2 hE v1 s1
set_option maxHeartbeats 8000000 in
set_option maxRecDepth 100000 in
theorem cont_1 (hE : Ent w ad x A2 c2) (g1 : x.f1 = true) (q5 : ¬ x.f5 = 0) : Calls Tryd.prog 57 #[.pointer (some ad)] w fun e w' => e = .returned (.bool false) ∧ Drawn0 w w' := by
 obtain ⟨h0, h1, h2, h3, h4, h5, h6, h7, h8, hl, hr⟩ := hE
 have HE := qas (⟨h0, h1, h2, h3, h4, h5, h6, h7, h8, hl, hr⟩ : Ent w ad x A2 c2)
 have HL := qas hl
 have HR := qas hr
 clear hl hr
 rw [g1] at h1
 have k0 : (x.f5 == 0) = false := beq_eq_false_iff_ne.mpr q5
 have k1 : (x.f5 != 0) = true := bne_iff_ne.mpr q5
 clear g1 q5
 go_enter Tryd.func57, Tryd.ntmps57
 go_wp2_with fail
 repeat (go_quiet (fail); try go_wp2_with fail)
 go_ret
 exact ⟨rfl, by repeat (first | exact Drawn0.refl _ | apply Drawn0.step)⟩
set_option maxHeartbeats 8000000 in
set_option maxRecDepth 100000 in
theorem cont_2 (hE : Ent w ad x A2 c2) (g1 : x.f1 = true) (q5 : x.f5 = 0) (q6 : ¬ x.f6.toList = ([] : List UInt8)) : Calls Tryd.prog 57 #[.pointer (some ad)] w fun e w' => e = .returned (.bool false) ∧ Drawn0 w w' := by
 obtain ⟨h0, h1, h2, h3, h4, h5, h6, h7, h8, hl, hr⟩ := hE
 have HE := qas (⟨h0, h1, h2, h3, h4, h5, h6, h7, h8, hl, hr⟩ : Ent w ad x A2 c2)
 have HL := qas hl
 have HR := qas hr
 clear hl hr
 rw [g1] at h1
 have k0 : (x.f5 == 0) = true := beq_iff_eq.mpr q5
 have k1 : (x.f5 != 0) = false := bne_eq_false_iff_eq.mpr q5
 have k2 : (x.f6.toList == ([] : List UInt8)) = false := beq_eq_false_iff_ne.mpr q6
 have k3 : (x.f6.toList != ([] : List UInt8)) = true := bne_iff_ne.mpr q6
 clear g1 q5 q6
 go_enter Tryd.func57, Tryd.ntmps57
 go_wp2_with fail
 repeat (go_quiet (fail); try go_wp2_with fail)
 go_ret
 exact ⟨rfl, by repeat (first | exact Drawn0.refl _ | apply Drawn0.step)⟩
set_option maxHeartbeats 8000000 in
set_option maxRecDepth 100000 in
theorem cont_3 (hE : Ent w ad x A2 c2) (g1 : x.f1 = true) (q5 : x.f5 = 0) (q6 : x.f6.toList = ([] : List UInt8)) (q7 : ¬ x.f7 = 0) : Calls Tryd.prog 57 #[.pointer (some ad)] w fun e w' => e = .returned (.bool false) ∧ Drawn0 w w' := by
 obtain ⟨h0, h1, h2, h3, h4, h5, h6, h7, h8, hl, hr⟩ := hE
 have HE := qas (⟨h0, h1, h2, h3, h4, h5, h6, h7, h8, hl, hr⟩ : Ent w ad x A2 c2)
 have HL := qas hl
 have HR := qas hr
 clear hl hr
 rw [g1] at h1
 have k0 : (x.f5 == 0) = true := beq_iff_eq.mpr q5
 have k1 : (x.f5 != 0) = false := bne_eq_false_iff_eq.mpr q5
 have k2 : (x.f6.toList == ([] : List UInt8)) = true := beq_iff_eq.mpr q6
 have k3 : (x.f6.toList != ([] : List UInt8)) = false := bne_eq_false_iff_eq.mpr q6
 have k4 : (x.f7 == 0) = false := beq_eq_false_iff_ne.mpr q7
 have k5 : (x.f7 != 0) = true := bne_iff_ne.mpr q7
 clear g1 q5 q6 q7
 go_enter Tryd.func57, Tryd.ntmps57
 go_wp2_with fail
 repeat (go_quiet (fail); try go_wp2_with fail)
 go_ret
 exact ⟨rfl, by repeat (first | exact Drawn0.refl _ | apply Drawn0.step)⟩
set_option maxHeartbeats 8000000 in
set_option maxRecDepth 100000 in
theorem cont_4 (hE : Ent w ad x A2 c2) (g1 : x.f1 = true) (q5 : x.f5 = 0) (q6 : x.f6.toList = ([] : List UInt8)) (q7 : x.f7 = 0) (q9 : ¬ x.f8 = 0) : Calls Tryd.prog 57 #[.pointer (some ad)] w fun e w' => e = .returned (.bool false) ∧ Drawn0 w w' := by
 obtain ⟨h0, h1, h2, h3, h4, h5, h6, h7, h8, hl, hr⟩ := hE
 have HE := qas (⟨h0, h1, h2, h3, h4, h5, h6, h7, h8, hl, hr⟩ : Ent w ad x A2 c2)
 have HL := qas hl
 have HR := qas hr
 clear hl hr
 rw [g1] at h1
 have k0 : (x.f5 == 0) = true := beq_iff_eq.mpr q5
 have k1 : (x.f5 != 0) = false := bne_eq_false_iff_eq.mpr q5
 have k2 : (x.f6.toList == ([] : List UInt8)) = true := beq_iff_eq.mpr q6
 have k3 : (x.f6.toList != ([] : List UInt8)) = false := bne_eq_false_iff_eq.mpr q6
 have k4 : (x.f7 == 0) = true := beq_iff_eq.mpr q7
 have k5 : (x.f7 != 0) = false := bne_eq_false_iff_eq.mpr q7
 have k6 : (x.f8 == 0) = false := beq_eq_false_iff_ne.mpr q9
 have k7 : (x.f8 != 0) = true := bne_iff_ne.mpr q9
 clear g1 q5 q6 q7 q9
 go_enter Tryd.func57, Tryd.ntmps57
 go_wp2_with fail
 repeat (go_quiet (fail); try go_wp2_with fail)
 go_ret
 exact ⟨rfl, by repeat (first | exact Drawn0.refl _ | apply Drawn0.step)⟩
set_option maxHeartbeats 8000000 in
set_option maxRecDepth 100000 in
theorem cont_5 (hE : Ent w ad x A2 c2) (g1 : x.f1 = true) (q5 : x.f5 = 0) (q6 : x.f6.toList = ([] : List UInt8)) (q7 : x.f7 = 0) (q9 : x.f8 = 0) : Calls Tryd.prog 57 #[.pointer (some ad)] w fun e w' => e = .returned (.bool true) ∧ Drawn0 w w' := by
 obtain ⟨h0, h1, h2, h3, h4, h5, h6, h7, h8, hl, hr⟩ := hE
 have HE := qas (⟨h0, h1, h2, h3, h4, h5, h6, h7, h8, hl, hr⟩ : Ent w ad x A2 c2)
 have HL := qas hl
 have HR := qas hr
 clear hl hr
 rw [g1] at h1
 have k0 : (x.f5 == 0) = true := beq_iff_eq.mpr q5
 have k1 : (x.f5 != 0) = false := bne_eq_false_iff_eq.mpr q5
 have k2 : (x.f6.toList == ([] : List UInt8)) = true := beq_iff_eq.mpr q6
 have k3 : (x.f6.toList != ([] : List UInt8)) = false := bne_eq_false_iff_eq.mpr q6
 have k4 : (x.f7 == 0) = true := beq_iff_eq.mpr q7
 have k5 : (x.f7 != 0) = false := bne_eq_false_iff_eq.mpr q7
 have k6 : (x.f8 == 0) = true := beq_iff_eq.mpr q9
 have k7 : (x.f8 != 0) = false := bne_eq_false_iff_eq.mpr q9
 clear g1 q5 q6 q7 q9
 go_enter Tryd.func57, Tryd.ntmps57
 go_wp2_with fail
 repeat (go_quiet (fail); try go_wp2_with fail)
 go_ret
 exact ⟨rfl, by repeat (first | exact Drawn0.refl _ | apply Drawn0.step)⟩
set_option maxHeartbeats 8000000 in
set_option maxRecDepth 100000 in
theorem cont_6 (hE : Ent w ad x A2 c2) (g1 : x.f1 = false) (q5 : x.f5 = 0) (qs : ¬ (x.f6.size : Int) = x.f7) : Calls Tryd.prog 57 #[.pointer (some ad)] w fun e w' => e = .returned (.bool false) ∧ Drawn0 w w' := by
 obtain ⟨h0, h1, h2, h3, h4, h5, h6, h7, h8, hl, hr⟩ := hE
 have HE := qas (⟨h0, h1, h2, h3, h4, h5, h6, h7, h8, hl, hr⟩ : Ent w ad x A2 c2)
 have HL := qas hl
 have HR := qas hr
 clear hl hr
 rw [g1] at h1
 have k0 : (x.f5 == 0) = true := beq_iff_eq.mpr q5
 have k1 : (x.f5 != 0) = false := bne_eq_false_iff_eq.mpr q5
 have k2 : ((x.f6.size : Int) == x.f7) = false := beq_eq_false_iff_ne.mpr qs
 have k3 : ((x.f6.size : Int) != x.f7) = true := bne_iff_ne.mpr qs
 clear g1 q5 qs
 go_enter Tryd.func57, Tryd.ntmps57
 go_wp2_with fail
 repeat (go_quiet (fail); try go_wp2_with fail)
 go_ret
 exact ⟨rfl, by repeat (first | exact Drawn0.refl _ | apply Drawn0.step)⟩
set_option maxHeartbeats 8000000 in
set_option maxRecDepth 100000 in
theorem cont_7 (hE : Ent w ad x A2 c2) (g1 : x.f1 = false) (q5 : x.f5 = 0) (qs : (x.f6.size : Int) = x.f7) (qg : ¬ 0 ≤ x.f7) : Calls Tryd.prog 57 #[.pointer (some ad)] w fun e w' => e = .returned (.bool false) ∧ Drawn0 w w' := by
 obtain ⟨h0, h1, h2, h3, h4, h5, h6, h7, h8, hl, hr⟩ := hE
 have HE := qas (⟨h0, h1, h2, h3, h4, h5, h6, h7, h8, hl, hr⟩ : Ent w ad x A2 c2)
 have HL := qas hl
 have HR := qas hr
 clear hl hr
 rw [g1] at h1
 have k0 : (x.f5 == 0) = true := beq_iff_eq.mpr q5
 have k1 : (x.f5 != 0) = false := bne_eq_false_iff_eq.mpr q5
 have k2 : ((x.f6.size : Int) == x.f7) = true := beq_iff_eq.mpr qs
 have k3 : ((x.f6.size : Int) != x.f7) = false := bne_eq_false_iff_eq.mpr qs
 have k4 : decide (0 ≤ x.f7) = false := decide_eq_false qg
 have k5 : decide (x.f7 ≥ 0) = false := decide_eq_false qg
 have k6 : decide (x.f7 < 0) = true := decide_eq_true (by omega)
 have k7 : decide (0 > x.f7) = true := decide_eq_true (by omega)
 clear g1 q5 qs qg
 go_enter Tryd.func57, Tryd.ntmps57
 go_wp2_with fail
 repeat (go_quiet (fail); try go_wp2_with fail)
 go_ret
 exact ⟨rfl, by repeat (first | exact Drawn0.refl _ | apply Drawn0.step)⟩
set_option maxHeartbeats 8000000 in
set_option maxRecDepth 100000 in
theorem cont_8 (hE : Ent w ad x A2 c2) (g1 : x.f1 = false) (q5 : x.f5 = 0) (qs : (x.f6.size : Int) = x.f7) (qg : 0 ≤ x.f7) (qh : ¬ x.f7 ≤ 300) : Calls Tryd.prog 57 #[.pointer (some ad)] w fun e w' => e = .returned (.bool false) ∧ Drawn0 w w' := by
 obtain ⟨h0, h1, h2, h3, h4, h5, h6, h7, h8, hl, hr⟩ := hE
 have HE := qas (⟨h0, h1, h2, h3, h4, h5, h6, h7, h8, hl, hr⟩ : Ent w ad x A2 c2)
 have HL := qas hl
 have HR := qas hr
 clear hl hr
 rw [g1] at h1
 have k0 : (x.f5 == 0) = true := beq_iff_eq.mpr q5
 have k1 : (x.f5 != 0) = false := bne_eq_false_iff_eq.mpr q5
 have k2 : ((x.f6.size : Int) == x.f7) = true := beq_iff_eq.mpr qs
 have k3 : ((x.f6.size : Int) != x.f7) = false := bne_eq_false_iff_eq.mpr qs
 have k4 : decide (0 ≤ x.f7) = true := decide_eq_true qg
 have k5 : decide (x.f7 ≥ 0) = true := decide_eq_true qg
 have k6 : decide (x.f7 < 0) = false := decide_eq_false (by omega)
 have k7 : decide (0 > x.f7) = false := decide_eq_false (by omega)
 have k8 : decide (x.f7 ≤ 300) = false := decide_eq_false qh
 have k9 : decide (300 ≥ x.f7) = false := decide_eq_false qh
 have k10 : decide (300 < x.f7) = true := decide_eq_true (by omega)
 have k11 : decide (x.f7 > 300) = true := decide_eq_true (by omega)
 clear g1 q5 qs qg qh
 go_enter Tryd.func57, Tryd.ntmps57
 go_wp2_with fail
 repeat (go_quiet (fail); try go_wp2_with fail)
 go_ret
 exact ⟨rfl, by repeat (first | exact Drawn0.refl _ | apply Drawn0.step)⟩
set_option maxHeartbeats 8000000 in
set_option maxRecDepth 100000 in
theorem cont_9 (hE : Ent w ad x A2 c2) (g1 : x.f1 = false) (q5 : x.f5 = 0) (qs : (x.f6.size : Int) = x.f7) (qg : 0 ≤ x.f7) (qh : x.f7 ≤ 300) (b : Bool) (v4 : (decide (0 ≤ x.f8) && decide (x.f8 ≤ 4294967295)) = b) : Calls Tryd.prog 57 #[.pointer (some ad)] w fun e w' => e = .returned (.bool b) ∧ Drawn0 w w' := by
 obtain ⟨h0, h1, h2, h3, h4, h5, h6, h7, h8, hl, hr⟩ := hE
 have HE := qas (⟨h0, h1, h2, h3, h4, h5, h6, h7, h8, hl, hr⟩ : Ent w ad x A2 c2)
 have HL := qas hl
 have HR := qas hr
 clear hl hr
 rw [g1] at h1
 have k0 : (x.f5 == 0) = true := beq_iff_eq.mpr q5
 have k1 : (x.f5 != 0) = false := bne_eq_false_iff_eq.mpr q5
 have k2 : ((x.f6.size : Int) == x.f7) = true := beq_iff_eq.mpr qs
 have k3 : ((x.f6.size : Int) != x.f7) = false := bne_eq_false_iff_eq.mpr qs
 have k4 : decide (0 ≤ x.f7) = true := decide_eq_true qg
 have k5 : decide (x.f7 ≥ 0) = true := decide_eq_true qg
 have k6 : decide (x.f7 < 0) = false := decide_eq_false (by omega)
 have k7 : decide (0 > x.f7) = false := decide_eq_false (by omega)
 have k8 : decide (x.f7 ≤ 300) = true := decide_eq_true qh
 have k9 : decide (300 ≥ x.f7) = true := decide_eq_true qh
 have k10 : decide (300 < x.f7) = false := decide_eq_false (by omega)
 have k11 : decide (x.f7 > 300) = false := decide_eq_false (by omega)
 have V4 : Aside0 (crc_Is.f x.f8 = some b) := ⟨by rw [crc_at, v4]⟩
 clear g1 q5 qs qg qh
 go_enter Tryd.func57, Tryd.ntmps57
 go_wp2_with (first | (go_at_call 86; (with_reducible refine (crc_Is.calls x.f8 b _ V4.out).mono ?_); rintro e w3 ⟨rfl, ⟨nd3, rfl⟩⟩))
 repeat (go_quiet (fail); try go_wp2_with (first | (go_at_call 86; (with_reducible refine (crc_Is.calls x.f8 b _ V4.out).mono ?_); rintro e w3 ⟨rfl, ⟨nd3, rfl⟩⟩)))
 go_ret
 exact ⟨rfl, by repeat (first | exact Drawn0.refl _ | apply Drawn0.step)⟩
set_option maxHeartbeats 8000000 in
set_option maxRecDepth 100000 in
theorem cont_10 (hE : Ent w ad x A2 c2) (g1 : x.f1 = false) (q5 : ¬ x.f5 = 0) (q8 : x.f5 = 8) (qp : ¬ (x.f6.size : Int) ≤ 300) : Calls Tryd.prog 57 #[.pointer (some ad)] w fun e w' => e = .returned (.bool false) ∧ Drawn0 w w' := by
 obtain ⟨h0, h1, h2, h3, h4, h5, h6, h7, h8, hl, hr⟩ := hE
 have HE := qas (⟨h0, h1, h2, h3, h4, h5, h6, h7, h8, hl, hr⟩ : Ent w ad x A2 c2)
 have HL := qas hl
 have HR := qas hr
 clear hl hr
 rw [g1] at h1
 have k0 : (x.f5 == 0) = false := beq_eq_false_iff_ne.mpr q5
 have k1 : (x.f5 != 0) = true := bne_iff_ne.mpr q5
 have k2 : (x.f5 == 8) = true := beq_iff_eq.mpr q8
 have k3 : (x.f5 != 8) = false := bne_eq_false_iff_eq.mpr q8
 have k4 : decide ((x.f6.size : Int) ≤ 300) = false := decide_eq_false qp
 have k5 : decide (300 ≥ (x.f6.size : Int)) = false := decide_eq_false qp
 have k6 : decide (300 < (x.f6.size : Int)) = true := decide_eq_true (by omega)
 have k7 : decide ((x.f6.size : Int) > 300) = true := decide_eq_true (by omega)
 clear g1 q5 q8 qp
 go_enter Tryd.func57, Tryd.ntmps57
 go_wp2_with fail
 repeat (go_quiet (fail); try go_wp2_with fail)
 go_ret
 exact ⟨rfl, by repeat (first | exact Drawn0.refl _ | apply Drawn0.step)⟩
set_option maxHeartbeats 8000000 in
set_option maxRecDepth 100000 in
theorem cont_11 (hE : Ent w ad x A2 c2) (g1 : x.f1 = false) (q5 : ¬ x.f5 = 0) (q8 : x.f5 = 8) (qp : (x.f6.size : Int) ≤ 300) (qg : ¬ 0 ≤ x.f7) : Calls Tryd.prog 57 #[.pointer (some ad)] w fun e w' => e = .returned (.bool false) ∧ Drawn0 w w' := by
 obtain ⟨h0, h1, h2, h3, h4, h5, h6, h7, h8, hl, hr⟩ := hE
 have HE := qas (⟨h0, h1, h2, h3, h4, h5, h6, h7, h8, hl, hr⟩ : Ent w ad x A2 c2)
 have HL := qas hl
 have HR := qas hr
 clear hl hr
 rw [g1] at h1
 have k0 : (x.f5 == 0) = false := beq_eq_false_iff_ne.mpr q5
 have k1 : (x.f5 != 0) = true := bne_iff_ne.mpr q5
 have k2 : (x.f5 == 8) = true := beq_iff_eq.mpr q8
 have k3 : (x.f5 != 8) = false := bne_eq_false_iff_eq.mpr q8
 have k4 : decide ((x.f6.size : Int) ≤ 300) = true := decide_eq_true qp
 have k5 : decide (300 ≥ (x.f6.size : Int)) = true := decide_eq_true qp
 have k6 : decide (300 < (x.f6.size : Int)) = false := decide_eq_false (by omega)
 have k7 : decide ((x.f6.size : Int) > 300) = false := decide_eq_false (by omega)
 have k8 : decide (0 ≤ x.f7) = false := decide_eq_false qg
 have k9 : decide (x.f7 ≥ 0) = false := decide_eq_false qg
 have k10 : decide (x.f7 < 0) = true := decide_eq_true (by omega)
 have k11 : decide (0 > x.f7) = true := decide_eq_true (by omega)
 clear g1 q5 q8 qp qg
 go_enter Tryd.func57, Tryd.ntmps57
 go_wp2_with fail
 repeat (go_quiet (fail); try go_wp2_with fail)
 go_ret
 exact ⟨rfl, by repeat (first | exact Drawn0.refl _ | apply Drawn0.step)⟩
set_option maxHeartbeats 8000000 in
set_option maxRecDepth 100000 in
theorem cont_12 (hE : Ent w ad x A2 c2) (g1 : x.f1 = false) (q5 : ¬ x.f5 = 0) (q8 : x.f5 = 8) (qp : (x.f6.size : Int) ≤ 300) (qg : 0 ≤ x.f7) (qh : ¬ x.f7 ≤ 300) : Calls Tryd.prog 57 #[.pointer (some ad)] w fun e w' => e = .returned (.bool false) ∧ Drawn0 w w' := by
 obtain ⟨h0, h1, h2, h3, h4, h5, h6, h7, h8, hl, hr⟩ := hE
 have HE := qas (⟨h0, h1, h2, h3, h4, h5, h6, h7, h8, hl, hr⟩ : Ent w ad x A2 c2)
 have HL := qas hl
 have HR := qas hr
 clear hl hr
 rw [g1] at h1
 have k0 : (x.f5 == 0) = false := beq_eq_false_iff_ne.mpr q5
 have k1 : (x.f5 != 0) = true := bne_iff_ne.mpr q5
 have k2 : (x.f5 == 8) = true := beq_iff_eq.mpr q8
 have k3 : (x.f5 != 8) = false := bne_eq_false_iff_eq.mpr q8
 have k4 : decide ((x.f6.size : Int) ≤ 300) = true := decide_eq_true qp
 have k5 : decide (300 ≥ (x.f6.size : Int)) = true := decide_eq_true qp
 have k6 : decide (300 < (x.f6.size : Int)) = false := decide_eq_false (by omega)
 have k7 : decide ((x.f6.size : Int) > 300) = false := decide_eq_false (by omega)
 have k8 : decide (0 ≤ x.f7) = true := decide_eq_true qg
 have k9 : decide (x.f7 ≥ 0) = true := decide_eq_true qg
 have k10 : decide (x.f7 < 0) = false := decide_eq_false (by omega)
 have k11 : decide (0 > x.f7) = false := decide_eq_false (by omega)
 have k12 : decide (x.f7 ≤ 300) = false := decide_eq_false qh
 have k13 : decide (300 ≥ x.f7) = false := decide_eq_false qh
 have k14 : decide (300 < x.f7) = true := decide_eq_true (by omega)
 have k15 : decide (x.f7 > 300) = true := decide_eq_true (by omega)
 clear g1 q5 q8 qp qg qh
 go_enter Tryd.func57, Tryd.ntmps57
 go_wp2_with fail
 repeat (go_quiet (fail); try go_wp2_with fail)
 go_ret
 exact ⟨rfl, by repeat (first | exact Drawn0.refl _ | apply Drawn0.step)⟩
set_option maxHeartbeats 8000000 in
set_option maxRecDepth 100000 in
theorem cont_13 (hE : Ent w ad x A2 c2) (g1 : x.f1 = false) (q5 : ¬ x.f5 = 0) (q8 : x.f5 = 8) (qp : (x.f6.size : Int) ≤ 300) (qg : 0 ≤ x.f7) (qh : x.f7 ≤ 300) (b : Bool) (v4 : (decide (0 ≤ x.f8) && decide (x.f8 ≤ 4294967295)) = b) : Calls Tryd.prog 57 #[.pointer (some ad)] w fun e w' => e = .returned (.bool b) ∧ Drawn0 w w' := by
 obtain ⟨h0, h1, h2, h3, h4, h5, h6, h7, h8, hl, hr⟩ := hE
 have HE := qas (⟨h0, h1, h2, h3, h4, h5, h6, h7, h8, hl, hr⟩ : Ent w ad x A2 c2)
 have HL := qas hl
 have HR := qas hr
 clear hl hr
 rw [g1] at h1
 have k0 : (x.f5 == 0) = false := beq_eq_false_iff_ne.mpr q5
 have k1 : (x.f5 != 0) = true := bne_iff_ne.mpr q5
 have k2 : (x.f5 == 8) = true := beq_iff_eq.mpr q8
 have k3 : (x.f5 != 8) = false := bne_eq_false_iff_eq.mpr q8
 have k4 : decide ((x.f6.size : Int) ≤ 300) = true := decide_eq_true qp
 have k5 : decide (300 ≥ (x.f6.size : Int)) = true := decide_eq_true qp
 have k6 : decide (300 < (x.f6.size : Int)) = false := decide_eq_false (by omega)
 have k7 : decide ((x.f6.size : Int) > 300) = false := decide_eq_false (by omega)
 have k8 : decide (0 ≤ x.f7) = true := decide_eq_true qg
 have k9 : decide (x.f7 ≥ 0) = true := decide_eq_true qg
 have k10 : decide (x.f7 < 0) = false := decide_eq_false (by omega)
 have k11 : decide (0 > x.f7) = false := decide_eq_false (by omega)
 have k12 : decide (x.f7 ≤ 300) = true := decide_eq_true qh
 have k13 : decide (300 ≥ x.f7) = true := decide_eq_true qh
 have k14 : decide (300 < x.f7) = false := decide_eq_false (by omega)
 have k15 : decide (x.f7 > 300) = false := decide_eq_false (by omega)
 have V4 : Aside0 (crc_Is.f x.f8 = some b) := ⟨by rw [crc_at, v4]⟩
 clear g1 q5 q8 qp qg qh
 go_enter Tryd.func57, Tryd.ntmps57
 go_wp2_with (first | (go_at_call 86; (with_reducible refine (crc_Is.calls x.f8 b _ V4.out).mono ?_); rintro e w3 ⟨rfl, ⟨nd3, rfl⟩⟩))
 repeat (go_quiet (fail); try go_wp2_with (first | (go_at_call 86; (with_reducible refine (crc_Is.calls x.f8 b _ V4.out).mono ?_); rintro e w3 ⟨rfl, ⟨nd3, rfl⟩⟩)))
 go_ret
 exact ⟨rfl, by repeat (first | exact Drawn0.refl _ | apply Drawn0.step)⟩
set_option maxHeartbeats 8000000 in
set_option maxRecDepth 100000 in
theorem cont_14 (hE : Ent w ad x A2 c2) (g1 : x.f1 = false) (q5 : ¬ x.f5 = 0) (q8 : ¬ x.f5 = 8) : Calls Tryd.prog 57 #[.pointer (some ad)] w fun e w' => e = .returned (.bool false) ∧ Drawn0 w w' := by
 obtain ⟨h0, h1, h2, h3, h4, h5, h6, h7, h8, hl, hr⟩ := hE
 have HE := qas (⟨h0, h1, h2, h3, h4, h5, h6, h7, h8, hl, hr⟩ : Ent w ad x A2 c2)
 have HL := qas hl
 have HR := qas hr
 clear hl hr
 rw [g1] at h1
 have k0 : (x.f5 == 0) = false := beq_eq_false_iff_ne.mpr q5
 have k1 : (x.f5 != 0) = true := bne_iff_ne.mpr q5
 have k2 : (x.f5 == 8) = false := beq_eq_false_iff_ne.mpr q8
 have k3 : (x.f5 != 8) = true := bne_iff_ne.mpr q8
 clear g1 q5 q8
 go_enter Tryd.func57, Tryd.ntmps57
 go_wp2_with fail
 repeat (go_quiet (fail); try go_wp2_with fail)
 go_ret
 exact ⟨rfl, by repeat (first | exact Drawn0.refl _ | apply Drawn0.step)⟩
theorem cont_any (hE : Ent w ad x A2 c2) : Calls Tryd.prog 57 #[.pointer (some ad)] w fun e w' => e = .returned (.bool (content x)) ∧ Drawn0 w w' := by
 unfold content kept
 cases g1 : x.f1 with
 | true =>
  rw [if_pos rfl]
  by_cases q5 : x.f5 = 0
  ·rw [decide_eq_true q5]
   by_cases q6 : x.f6.toList = ([] : List UInt8)
   ·rw [decide_eq_true ((empty_iff _).1 q6)]
    by_cases q7 : x.f7 = 0
    ·rw [decide_eq_true q7]
     by_cases q9 : x.f8 = 0
     ·rw [decide_eq_true q9]; exact cont_5 w ad x A2 c2 hE g1 q5 q6 q7 q9
     ·rw [decide_eq_false q9]; exact cont_4 w ad x A2 c2 hE g1 q5 q6 q7 q9
    ·rw [decide_eq_false q7]; exact cont_3 w ad x A2 c2 hE g1 q5 q6 q7
   ·rw [decide_eq_false (fun h => q6 ((empty_iff _).2 h))]; exact cont_2 w ad x A2 c2 hE g1 q5 q6
  ·rw [decide_eq_false q5]; exact cont_1 w ad x A2 c2 hE g1 q5
 | false =>
  rw [if_neg (by decide)]
  by_cases q5 : x.f5 = 0
  ·rw [if_pos q5]
   by_cases qs : (x.f6.size : Int) = x.f7
   ·rw [decide_eq_true qs]
    by_cases qg : 0 ≤ x.f7
    ·rw [decide_eq_true qg]
     by_cases qh : x.f7 ≤ 300
     ·rw [decide_eq_true qh]; exact cont_9 w ad x A2 c2 hE g1 q5 qs qg qh _ rfl
     ·rw [decide_eq_false qh]; exact cont_8 w ad x A2 c2 hE g1 q5 qs qg qh
    ·rw [decide_eq_false qg]; exact cont_7 w ad x A2 c2 hE g1 q5 qs qg
   ·rw [decide_eq_false qs]; exact cont_6 w ad x A2 c2 hE g1 q5 qs
  ·rw [if_neg q5]
   by_cases q8 : x.f5 = 8
   ·rw [if_pos q8]
    by_cases qp : (x.f6.size : Int) ≤ 300
    ·rw [decide_eq_true (p := x.f6.size ≤ 300) (by omega)]
     by_cases qg : 0 ≤ x.f7
     ·rw [decide_eq_true qg]
      by_cases qh : x.f7 ≤ 300
      ·rw [decide_eq_true qh]; exact cont_13 w ad x A2 c2 hE g1 q5 q8 qp qg qh _ rfl
      ·rw [decide_eq_false qh]; exact cont_12 w ad x A2 c2 hE g1 q5 q8 qp qg qh
     ·rw [decide_eq_false qg]; exact cont_11 w ad x A2 c2 hE g1 q5 q8 qp qg
    ·rw [decide_eq_false (p := x.f6.size ≤ 300) (by omega)]; exact cont_10 w ad x A2 c2 hE g1 q5 q8 qp
   ·rw [if_neg q8]; exact cont_14 w ad x A2 c2 hE g1 q5 q8
end
end Go.Proofs.YtneogampbohfnaaDoor.ZipW
