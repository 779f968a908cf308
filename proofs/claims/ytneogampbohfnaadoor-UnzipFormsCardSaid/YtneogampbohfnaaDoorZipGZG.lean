/- What zipget reads: an archive's folder, and nothing out of any other text. -/
import Derived.Test.YtneogampbohfnaaDoorZipLZG
import Derived.Test.YtneogampbohfnaaDoorExtraGZG
import Derived.Test.YtneogampbohfnaaDoorExtraPZG
import Derived.Test.YtneogampbohfnaaDoorZG8
import Derived.Test.YtneogampbohfnaaDoorZG7
import Derived.Test.YtneogampbohfnaaDoorZG0
import Derived.Test.YtneogampbohfnaaDoorZipJ
import Derived.Test.YtneogampbohfnaaDoorBits
namespace Go.Proofs.YtneogampbohfnaaDoor.ZG
set_option linter.unusedVariables false
set_option linter.unusedSimpArgs false
open Go.RowKit Go.Proofs.YtneogampbohfnaaDoorW.PrintWords Go.Proofs.YtneogampbohfnaaDoorW.PrintLast Go.Proofs.YtneogampbohfnaaDoorW.PrintMore
open Go.Proofs.YtneogampbohfnaaDoor.ZB (S39 z39 k39 rd_T39)
open ZipW (app_assoc app_nil nil_app app_inj ext_app cut_join)
theorem zb_may : @mayE = @Go.Proofs.YtneogampbohfnaaDoor.ZB.mayE := rfl
theorem zb_low : @lowL = @Go.Proofs.YtneogampbohfnaaDoor.ZB.lowL := rfl
theorem zb_put : @putL = @Go.Proofs.YtneogampbohfnaaDoor.ZB.putL := rfl
theorem g_text (a r : ByteArray) (bad : Bool) (n : Nat) (h : a.size = n) : extra_Taker_Text.f (a ++ r) bad (n : Int) = some (a, r, bad) := by
  have hs : (a ++ r).size = a.size + r.size := ByteArray.size_append
  have he := ext_app a r
  unfold extra_Taker_Text.f
  rw [if_neg (by omega), if_pos (by omega), if_pos (by omega), Int.toNat_natCast, ← h, he.1, he.2]
theorem g_num (X n : Nat) (hn : n ≤ 4) (hX : X < 2 ^ (8 * n)) (r : ByteArray) (bad : Bool) {k : Nat} (hk : 10 ≤ k) : extra_Taker_Num.f k (strOfNums (lowL (X : Int) n) ++ r) bad (n : Int) = some ((X : Int), r, bad) := by
  have hl := lowL_length (X : Int) n
  have hz : (strOfNums (lowL (X : Int) n)).size = n := by rw [strOfNums_size, hl]
  unfold extra_Taker_Num.f
  rw [g_text _ r bad n hz, Option.bind_some]
  dsimp only
  rw [if_pos (by omega), Option.bind_some, bytesOf_str (lowL_bytes _ _), hl]
  have := num_l0 X n hn r bad n 0 (by omega) k (by omega)
  rw [Nat.mod_eq_of_lt hX] at this
  have e0 : ((X % 2 ^ (8 * 0) : Nat) : Int) = 0 := by simp [Nat.mod_one]
  rw [e0] at this
  exact this
/-- An entry's part in front, number by number. -/
theorem part_list (x : S39) (r : ByteArray) : ZipW.partF x ++ r = ((⟨#[80, 75, 3, 4]⟩ : ByteArray) ++ (strOfNums (lowL 20 2) ++ strOfNums (lowL 0 2))) ++ (strOfNums (lowL x.f5 2) ++ ((strOfNums (lowL 0 2) ++ strOfNums (lowL 0 2)) ++ (strOfNums (lowL x.f8 4) ++ (strOfNums (lowL (x.f6.size : Int) 4) ++ (strOfNums (lowL x.f7 4) ++ (strOfNums (lowL (x.f0.size : Int) 2) ++ (strOfNums (lowL 26 2) ++ (x.f0 ++ (ZipW.headB x ++ (x.f6 ++ r)))))))))) := by
  have nc : ∀ (n : Nat) (y : Int) (ys : List Int), ZipW.numsB n (y :: ys) = strOfNums (lowL y n) ++ ZipW.numsB n ys := fun n y ys => by
    unfold ZipW.numsB
    rw [ZipW.numsL_cons, Go.Proofs.YtneogampbohfnaaDoor.ZB.strs_append]
    rfl
  have nn : ∀ n : Nat, ZipW.numsB n [] = (⟨#[]⟩ : ByteArray) := fun _ => rfl
  unfold ZipW.partF ZipW.commonB ZipW.namesB
  simp only [nc, nn, app_nil, app_assoc]
theorem low_sz (x : Int) (n : Nat) : (strOfNums (lowL x n)).size = n := by rw [strOfNums_size, lowL_length]
theorem nat_of {u : Int} (h : 0 ≤ u) : ∃ U : Nat, u = (U : Int) := ⟨u.toNat, by omega⟩
theorem p2 {X : Nat} (h : X < 65536) : X < 2 ^ (8 * 2) := Nat.lt_of_lt_of_eq h (by decide)
theorem p4 {X : Nat} (h : X < 4294967296) : X < 2 ^ (8 * 4) := Nat.lt_of_lt_of_eq h (by decide)
theorem entry_part (x : S39) (hx : ZipW.Fit x) (r : ByteArray) {k : Nat} (hk : 120 ≤ k) : zipget_entry.f k (ZipW.partF x ++ r) false = some (x.f0, x.f1, x.f2, x.f3, x.f4, x.f5, x.f6, x.f7, x.f8, r, false) := by
  have hz := ZipW.headB_size x hx.head
  have hg : extra_Get.f k (ZipW.headB x) = some (⟨#[]⟩, x.f1, x.f2, x.f3, x.f4, 0, ⟨#[]⟩, 0, 0, 0) := by
    have h := get_put x.f2 x.f3 x.f4 x.f1 (by rw [zb_may]; exact hx.head) (k := k) (by omega)
    unfold ZipW.headB
    rw [if_pos hx.head]
    exact h
  obtain ⟨h0, h6, _, ⟨m0, m1⟩, ⟨s0, s1⟩, ⟨c0, c1⟩⟩ := hx
  obtain ⟨x0, x1, x2, x3, x4, x5, x6, x7, x8⟩ := x
  dsimp only at *
  obtain ⟨X5, rfl⟩ := nat_of m0
  obtain ⟨X7, rfl⟩ := nat_of s0
  obtain ⟨X8, rfl⟩ := nat_of c0
  unfold zipget_entry.f
  rw [part_list]
  dsimp only
  have t8 : ∀ (a r : ByteArray), a.size = 8 → extra_Taker_Text.f (a ++ r) false 8 = some (a, r, false) := fun a r h => g_text a r false 8 h
  have t4 : ∀ (a r : ByteArray), a.size = 4 → extra_Taker_Text.f (a ++ r) false 4 = some (a, r, false) := fun a r h => g_text a r false 4 h
  have t2 : ∀ (a r : ByteArray), a.size = 2 → extra_Taker_Text.f (a ++ r) false 2 = some (a, r, false) := fun a r h => g_text a r false 2 h
  have t26 : ∀ (a r : ByteArray), a.size = 26 → extra_Taker_Text.f (a ++ r) false 26 = some (a, r, false) := fun a r h => g_text a r false 26 h
  have n2 : ∀ (X : Nat) (r : ByteArray), X < 65536 → extra_Taker_Num.f k (strOfNums (lowL (X : Int) 2) ++ r) false 2 = some ((X : Int), r, false) := fun X r h => g_num X 2 (by omega) (p2 h) r false (by omega)
  have n4 : ∀ (X : Nat) (r : ByteArray), X < 4294967296 → extra_Taker_Num.f k (strOfNums (lowL (X : Int) 4) ++ r) false 4 = some ((X : Int), r, false) := fun X r h => g_num X 4 (by omega) (p4 h) r false (by omega)
  rw [t8 _ _ (by simp only [ByteArray.size_append, low_sz]; rfl), Option.bind_some]
  dsimp only
  rw [n2 _ _ (by omega), Option.bind_some]
  dsimp only
  rw [t4 _ _ (by rw [ByteArray.size_append, low_sz]), Option.bind_some]
  dsimp only
  rw [n4 _ _ (by omega), Option.bind_some]
  dsimp only
  rw [n4 _ _ (by omega), Option.bind_some]
  dsimp only
  rw [n4 _ _ (by omega), Option.bind_some]
  dsimp only
  rw [n2 _ _ (by omega), Option.bind_some]
  dsimp only
  rw [t2 _ _ (low_sz _ _), Option.bind_some]
  dsimp only
  rw [g_text x0 _ false x0.size rfl, Option.bind_some]
  dsimp only
  rw [t26 _ _ hz, Option.bind_some]
  dsimp only
  rw [hg, Option.bind_some]
  dsimp only
  rw [if_pos rfl, g_text x6 r false x6.size rfl, Option.bind_some]
theorem has_yes (r : ByteArray) : strings_HasPrefix.f ((⟨#[80, 75, 3, 4]⟩ : ByteArray) ++ r) (⟨#[80, 75, 3, 4]⟩ : ByteArray) = some true := by
  have hs : ((⟨#[80, 75, 3, 4]⟩ : ByteArray) ++ r).size = (⟨#[80, 75, 3, 4]⟩ : ByteArray).size + r.size := ByteArray.size_append
  have h4 : (⟨#[80, 75, 3, 4]⟩ : ByteArray).size = 4 := rfl
  have he := (ext_app (⟨#[80, 75, 3, 4]⟩ : ByteArray) r).1
  unfold strings_HasPrefix.f stringslite_HasPrefix.f
  rw [if_pos (by omega), if_pos (by omega), if_pos (by omega), Int.toNat_natCast, he, Option.bind_some]
  simp
theorem has_no (p r : ByteArray) (hp : p.size = 4) (hne : p ≠ (⟨#[80, 75, 3, 4]⟩ : ByteArray)) : strings_HasPrefix.f (p ++ r) (⟨#[80, 75, 3, 4]⟩ : ByteArray) = some false := by
  have hs : (p ++ r).size = p.size + r.size := ByteArray.size_append
  have h4 : (⟨#[80, 75, 3, 4]⟩ : ByteArray).size = 4 := rfl
  have he := (ext_app p r).1
  rw [hp] at he
  unfold strings_HasPrefix.f stringslite_HasPrefix.f
  rw [if_pos (by omega), if_pos (by omega), if_pos (by omega), Int.toNat_natCast, h4, he, Option.bind_some]
  congr 1
  rw [beq_eq_false_iff_ne]
  intro e
  apply hne
  apply Go.WideShapes.bytes_inj
  rw [ByteArray.toList_eq, ByteArray.toList_eq] at e
  exact e
theorem has_any (s : ByteArray) : ∃ b, strings_HasPrefix.f s (⟨#[80, 75, 3, 4]⟩ : ByteArray) = some b := by
  have h4 : (⟨#[80, 75, 3, 4]⟩ : ByteArray).size = 4 := rfl
  unfold strings_HasPrefix.f stringslite_HasPrefix.f
  by_cases h : (s.size : Int) ≥ ((⟨#[80, 75, 3, 4]⟩ : ByteArray).size : Int)
  · rw [if_pos h, if_pos (by omega), if_pos (by omega), Option.bind_some]; exact ⟨_, rfl⟩
  · rw [if_neg h, Option.bind_some]; exact ⟨_, rfl⟩
theorem take_next (l : List S39) (i : Nat) (h : i < l.length) : l.take i ++ [rd_T39 l (i : Int)] = l.take (i + 1) := by
  rw [List.take_succ_eq_append_getElem h]
  congr 2
  unfold rd_T39
  rw [Int.toNat_natCast, List.getD_eq_getElem?_getD, List.getElem?_eq_getElem h]
  rfl
theorem get_l0 (l : List S39) (hz : zok l) : ∀ (d i : Nat), i + d = l.length → ∀ (r : ByteArray), ZipW.zipL l = ZipW.frontTo l i ++ r → ∀ K, d + 150 ≤ K → zipget_Get.l0 K (ZipW.zipL l) r false (l.take i) = some (l, 0)
  | 0, i, hi, r, hr, K, hK => by
    obtain ⟨q, rfl⟩ : ∃ q, K = q + 1 := ⟨K - 1, by omega⟩
    have hi' : i = l.length := by omega
    subst hi'
    have hn := (ZipW.small_of hz.1).n
    rw [ZipW.zipL_parts] at hr
    have hr' := (app_inj hr rfl).2
    obtain ⟨p, u, h1, h2, h3⟩ := ZipW.end_starts l
    rw [zipget_Get.l0, ← hr', h1, has_no p u h2 h3, Option.bind_some, if_neg (by decide), List.take_of_length_le (by omega), zput (by omega), Option.bind_some, if_neg (by decide), zput_yes hz, if_pos rfl, if_pos rfl]
  | d + 1, i, hi, r, hr, K, hK => by
    obtain ⟨q, rfl⟩ : ∃ q, K = q + 1 := ⟨K - 1, by omega⟩
    have hn := (ZipW.small_of hz.1).n
    obtain ⟨r', hr2⟩ := ZipW.zipL_cut l (i + 1) (by omega)
    have hr1 := hr2
    rw [ZipW.front_next, app_assoc, hr] at hr1
    have e := (app_inj hr1 rfl).2
    obtain ⟨u, hu⟩ := ZipW.part_starts (rd_T39 l (i : Int))
    have hf := ZipW.fit_of hz.1 i (by omega)
    have hp : strings_HasPrefix.f (ZipW.partF (rd_T39 l (i : Int)) ++ r') (⟨#[80, 75, 3, 4]⟩ : ByteArray) = some true := by
      rw [hu, app_assoc]; exact has_yes _
    rw [zipget_Get.l0, e, hp, Option.bind_some, if_pos rfl, if_neg (by decide), if_pos (by rw [List.length_take]; omega), entry_part _ hf r' (by omega), Option.bind_some, if_pos (by rw [List.length_take]; omega)]
    dsimp only
    have h := get_l0 l hz d (i + 1) (by omega) r' hr2 q (by omega)
    rw [← take_next l i (by omega)] at h
    exact h
/-- An archive is read, whole. -/
theorem get_yes (l : List S39) (hz : zok l) {K : Nat} (hK : 200 ≤ K) : zipget_Get.f K (ZipW.zipL l) = some (l, 0) := by
  have hn := (ZipW.small_of hz.1).n
  have h := get_l0 l hz l.length 0 (by omega) (ZipW.zipL l) (by rw [ZipW.frontTo, nil_app]) K (by omega)
  rw [List.take_zero] at h
  exact h
theorem low2_of (a b : Int) (ha : 0 ≤ a ∧ a < 256) (hb : 0 ≤ b ∧ b < 256) : ∃ X : Nat, X < 65536 ∧ [a, b] = lowL (X : Int) 2 := by
  obtain ⟨A, rfl⟩ := nat_of ha.1
  obtain ⟨B, rfl⟩ := nat_of hb.1
  refine ⟨A + 256 * B, by omega, ?_⟩
  show _ = [lowB ((A + 256 * B : Nat) : Int) 0, lowB ((A + 256 * B : Nat) : Int) 1]
  rw [lowB_nat _ _ (by decide), lowB_nat _ _ (by decide)]
  simp only [Nat.reduceMul, Nat.reducePow]
  rw [show (A + 256 * B) / 1 % 256 = A from by omega, show (A + 256 * B) / 256 % 256 = B from by omega]
theorem low4_of (a b c d : Int) (ha : 0 ≤ a ∧ a < 256) (hb : 0 ≤ b ∧ b < 256) (hc : 0 ≤ c ∧ c < 256) (hd : 0 ≤ d ∧ d < 256) : ∃ X : Nat, X < 4294967296 ∧ [a, b, c, d] = lowL (X : Int) 4 := by
  obtain ⟨A, rfl⟩ := nat_of ha.1
  obtain ⟨B, rfl⟩ := nat_of hb.1
  obtain ⟨C, rfl⟩ := nat_of hc.1
  obtain ⟨D, rfl⟩ := nat_of hd.1
  refine ⟨A + 256 * B + 65536 * C + 16777216 * D, by omega, ?_⟩
  generalize hX : A + 256 * B + 65536 * C + 16777216 * D = X
  show _ = [lowB (X : Int) 0, lowB (X : Int) 1, lowB (X : Int) 2, lowB (X : Int) 3]
  rw [lowB_nat _ _ (by decide), lowB_nat _ _ (by decide), lowB_nat _ _ (by decide), lowB_nat _ _ (by decide)]
  simp only [Nat.reduceMul, Nat.reducePow]
  rw [show X / 1 % 256 = A from by omega, show X / 256 % 256 = B from by omega, show X / 65536 % 256 = C from by omega, show X / 16777216 % 256 = D from by omega]
theorem bytes_of (s : ByteArray) : isBytes (bytesOf s) := by
  intro x hx
  unfold bytesOf at hx
  obtain ⟨b, _, rfl⟩ := List.mem_map.mp hx
  have := UInt8.toNat_lt b
  omega
theorem str_bytes (s : ByteArray) : strOfNums (bytesOf s) = s := by
  apply Go.WideShapes.bytes_inj
  rw [strOfNums_data]
  unfold bytesOf
  rw [List.map_map]
  conv => rhs; rw [← List.map_id s.data.toList]
  refine List.map_congr_left fun b _ => ?_
  show UInt8.ofNat ((b.toNat : Int)).toNat = b
  simp
/-- A number that is read is none below 0. -/
theorem g_num_any (s : ByteArray) (bad : Bool) (n : Nat) (hn : n = 2 ∨ n = 4) {k : Nat} (hk : 10 ≤ k) : ∃ (X : Nat) (r : ByteArray) (b : Bool), extra_Taker_Num.f k s bad (n : Int) = some ((X : Int), r, b) ∧ X < 4294967296 := by
  by_cases h : n ≤ s.size
  · have hc := cut_join s n h
    have hl : (bytesOf (s.extract 0 n)).length = n := by rw [bytesOf_length, ByteArray.size_extract]; omega
    have hb := bytes_of (s.extract 0 n)
    have hs := str_bytes (s.extract 0 n)
    generalize bytesOf (s.extract 0 n) = y at hl hb hs
    rcases hn with rfl | rfl
    · match y, hl with
      | [a, b], _ =>
        obtain ⟨X, hX, e⟩ := low2_of a b (hb a (by simp)) (hb b (by simp))
        refine ⟨X, s.extract 2 s.size, bad, ?_, by omega⟩
        rw [hc, ← hs, e]
        have h2 := g_num X 2 (by omega) (p2 hX) (s.extract 2 s.size) bad hk
        rw [← e, hs, ← hc] at h2 ⊢
        exact h2
    · match y, hl with
      | [a, b, c, d], _ =>
        obtain ⟨X, hX, e⟩ := low4_of a b c d (hb a (by simp)) (hb b (by simp)) (hb c (by simp)) (hb d (by simp))
        refine ⟨X, s.extract 4 s.size, bad, ?_, by omega⟩
        have h2 := g_num X 4 (by omega) (p4 hX) (s.extract 4 s.size) bad hk
        rw [← e, hs, ← hc] at h2
        exact h2
  · refine ⟨0, s, true, ?_, by omega⟩
    have e0 : s.extract 0 0 = (⟨#[]⟩ : ByteArray) := by
      apply Go.WideShapes.bytes_inj
      rw [ByteArray.data_extract, Array.toList_extract, List.extract_eq_take_drop]
      simp
    obtain ⟨m, rfl⟩ : ∃ m, k = m + 1 := ⟨k - 1, by omega⟩
    unfold extra_Taker_Num.f extra_Taker_Text.f
    rw [if_pos (by omega), if_pos (by omega), if_pos (by omega), Option.bind_some, e0]
    dsimp only
    rw [if_pos (by decide), Option.bind_some]
    have eb : bytesOf (⟨#[]⟩ : ByteArray) = [] := rfl
    rw [eb, extra_Taker_Num.l0, if_neg (by decide)]
    rfl
theorem entry_any (s : ByteArray) (bad : Bool) {k : Nat} (hk : 120 ≤ k) : ∃ x r b, zipget_entry.f k s bad = some x ∧ x.2.2.2.2.2.2.2.2.2 = (r, b) := by
  obtain ⟨t1, r1, b1, h1, _⟩ := text_any s bad 8
  obtain ⟨X2, r2, b2, h2, _⟩ := g_num_any r1 b1 2 (.inl rfl) (k := k) (by omega)
  obtain ⟨t3, r3, b3, h3, _⟩ := text_any r2 b2 4
  obtain ⟨X4, r4, b4, h4, _⟩ := g_num_any r3 b3 4 (.inr rfl) (k := k) (by omega)
  obtain ⟨X5, r5, b5, h5, _⟩ := g_num_any r4 b4 4 (.inr rfl) (k := k) (by omega)
  obtain ⟨X6, r6, b6, h6, _⟩ := g_num_any r5 b5 4 (.inr rfl) (k := k) (by omega)
  obtain ⟨X7, r7, b7, h7, _⟩ := g_num_any r6 b6 2 (.inl rfl) (k := k) (by omega)
  obtain ⟨t8, r8, b8, h8, _⟩ := text_any r7 b7 2
  obtain ⟨t9, r9, b9, h9, _⟩ := text_any r8 b8 X7
  obtain ⟨t10, r10, b10, h10, _⟩ := text_any r9 b9 26
  obtain ⟨g, v, st, nd, h11⟩ := get_any t10 (k := k) (by omega)
  have h1 : extra_Taker_Text.f s bad 8 = some (t1, r1, b1) := h1
  have h2 : extra_Taker_Num.f k r1 b1 2 = some ((X2 : Int), r2, b2) := h2
  have h3 : extra_Taker_Text.f r2 b2 4 = some (t3, r3, b3) := h3
  have h4 : extra_Taker_Num.f k r3 b3 4 = some ((X4 : Int), r4, b4) := h4
  have h5 : extra_Taker_Num.f k r4 b4 4 = some ((X5 : Int), r5, b5) := h5
  have h6 : extra_Taker_Num.f k r5 b5 4 = some ((X6 : Int), r6, b6) := h6
  have h7 : extra_Taker_Num.f k r6 b6 2 = some ((X7 : Int), r7, b7) := h7
  have h8 : extra_Taker_Text.f r7 b7 2 = some (t8, r8, b8) := h8
  have h10 : extra_Taker_Text.f r9 b9 26 = some (t10, r10, b10) := h10
  unfold zipget_entry.f
  rw [h1, Option.bind_some]
  dsimp only
  rw [h2, Option.bind_some]
  dsimp only
  rw [h3, Option.bind_some]
  dsimp only
  rw [h4, Option.bind_some]
  dsimp only
  rw [h5, Option.bind_some]
  dsimp only
  rw [h6, Option.bind_some]
  dsimp only
  rw [h7, Option.bind_some]
  dsimp only
  rw [h8, Option.bind_some]
  dsimp only
  rw [h9, Option.bind_some]
  dsimp only
  rw [h10, Option.bind_some]
  dsimp only
  rw [h11, Option.bind_some]
  by_cases hf : (fin t10 g v st nd).2.2.2.2.2.2.2.2.2 = 0
  · rw [if_pos hf]
    obtain ⟨t, r, b, h, _⟩ := text_any r10 b10 X5
    rw [h, Option.bind_some]
    exact ⟨_, _, _, rfl, rfl⟩
  · rw [if_neg hf]
    obtain ⟨t, r, b, h, _⟩ := text_any r10 true X5
    rw [h, Option.bind_some]
    exact ⟨_, _, _, rfl, rfl⟩
/-- What Get may answer to a text. -/
def Got (s : ByteArray) (o : Option (List S39 × Int)) : Prop := o = some ([], 1400) ∨ ∃ l, zok l ∧ ZipW.zipL l = s ∧ o = some (l, 0)
theorem got_end (s : ByteArray) (l : List S39) (hl : l.length ≤ 9000000000000000000) : Got s ((zipput_Put.f l).bind fun bt => (if bt.2 = 0 then (if bt.1.toList = s.toList then (some (l, 0)) else (some (([] : List (S39)), 1400))) else (some (([] : List (S39)), 1400)))) := by
  rw [zput (by omega), Option.bind_some]
  by_cases h : (ZipW.putR l).2 = 0
  · have hz := zput_zero h
    rw [if_pos h, zput_yes hz]
    by_cases e : (ZipW.zipL l).toList = s.toList
    · rw [if_pos e]
      exact .inr ⟨l, hz, Go.WideShapes.bytes_inj (by rw [ByteArray.toList_eq, ByteArray.toList_eq] at e; exact e), rfl⟩
    · rw [if_neg e]; exact .inl rfl
  · rw [if_neg h]; exact .inl rfl
theorem got_l0 (s : ByteArray) : ∀ (d : Nat) (r : ByteArray) (b : Bool) (l : List S39), l.length + d = 6 → ∀ K, d + 150 ≤ K → Got s (zipget_Get.l0 K s r b l) := by
  intro d
  induction d with
  | zero =>
    intro r b l hl K hK
    obtain ⟨q, rfl⟩ : ∃ q, K = q + 1 := ⟨K - 1, by omega⟩
    obtain ⟨c, hc⟩ := has_any r
    rw [zipget_Get.l0, hc, Option.bind_some]
    cases c
    · rw [if_neg (by decide)]
      cases b
      · have h := got_end s l (by omega)
        exact h
      · rw [zput (by omega), Option.bind_some, if_pos rfl]
        exact .inl rfl
    · rw [if_pos rfl]
      cases b
      · rw [if_neg (by decide), if_neg (by omega)]
        exact got_end s l (by omega)
      · rw [if_pos rfl, zput (by omega), Option.bind_some]
        exact .inl rfl
  | succ d ih =>
    intro r b l hl K hK
    obtain ⟨q, rfl⟩ : ∃ q, K = q + 1 := ⟨K - 1, by omega⟩
    obtain ⟨c, hc⟩ := has_any r
    rw [zipget_Get.l0, hc, Option.bind_some]
    cases c
    · rw [if_neg (by decide)]
      cases b
      · have h := got_end s l (by omega)
        exact h
      · rw [zput (by omega), Option.bind_some, if_pos rfl]
        exact .inl rfl
    · rw [if_pos rfl]
      cases b
      · rw [if_neg (by decide), if_pos (by omega)]
        obtain ⟨x, r', b', hx, _⟩ := entry_any r false (k := q) (by omega)
        rw [hx, Option.bind_some, if_pos (by omega)]
        exact ih _ _ _ (by rw [List.length_append, List.length_singleton]; omega) q (by omega)
      · rw [if_pos rfl, zput (by omega), Option.bind_some]
        exact .inl rfl
/-- Any text: it is an archive, and its folder is read; or it is none. -/
theorem get_any39 (s : ByteArray) {K : Nat} (hK : 200 ≤ K) : Got s (zipget_Get.f K s) := got_l0 s 6 s false [] rfl K (by omega)
end Go.Proofs.YtneogampbohfnaaDoor.ZG
