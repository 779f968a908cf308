/- Chapter 17 over plain lists: blocks, disks, runs. -/
import Derived.Test.YtdccnjinehcenaaDD2
import Derived.Test.YtdccnjinehcenaaDD3
import Derived.Test.YtdccnjinehcenaaDD4
import Derived.Test.YtdccnjinehcenaaDD8
import Derived.Test.YtdccnjinehcenaaDD7
namespace Go.Proofs.Ytdccnjinehcenaa.DD
set_option linter.unusedVariables false
set_option linter.unusedSimpArgs false
open Go.RowKit Go.Proofs.YtdccnjinehcenaaW.PrintWords Go.Proofs.YtdccnjinehcenaaW.PrintLast Go.Proofs.YtdccnjinehcenaaW.PrintMore
/-- A block of one byte. -/
def blk (c : Int) : ByteArray := strOfNums (List.replicate 64 c)
theorem blk_size (c : Int) : (blk c).size = 64 := by unfold blk; rw [strOfNums_size, List.length_replicate]
theorem full_l0 (c : Int) : ∀ (d i : Nat), i + d = 64 → ∀ K, d + 1 ≤ K → ∀ l : List Int, l.length = 64 → portagelaw17_full.l0 K c l (i : Int) = some (strOfNums (l.take i ++ List.replicate d c))
  | 0, i, hi, K, hK, l, hl => by
    obtain ⟨m, rfl⟩ : ∃ m, K = m + 1 := ⟨K - 1, by omega⟩
    rw [portagelaw17_full.l0, if_neg (by omega), List.replicate_zero, List.append_nil, List.take_of_length_le (by omega)]
  | d + 1, i, hi, K, hK, l, hl => by
    obtain ⟨m, rfl⟩ : ∃ m, K = m + 1 := ⟨K - 1, by omega⟩
    have hw : wrap64 ((i : Int) + 1) = ((i + 1 : Nat) : Int) := by unfold wrap64; omega
    rw [portagelaw17_full.l0, if_pos (by omega), if_pos (by omega), if_pos (by omega), hw, Int.toNat_natCast, full_l0 c d (i + 1) (by omega) m (by omega) _ (by rw [List.length_set]; exact hl)]
    congr 2
    have hs : i < (l.set i c).length := by rw [List.length_set]; omega
    rw [← List.take_append_getElem hs, List.getElem_set_self, List.take_set_of_le (Nat.le_refl i), List.append_assoc]
    rfl
theorem full_eq (c : Int) (K : Nat) (hK : 65 ≤ K) : portagelaw17_full.f K c = some (blk c) := by
  unfold portagelaw17_full.f
  rw [if_pos (by decide)]
  have := full_l0 c 64 0 (by omega) K hK (List.replicate 64 0) (List.length_replicate ..)
  exact this
theorem new_eq : disk_New.f = some (List.replicate 130 (blk 0)) := by
  have h1 : strings_Repeat.f (⟨#[0]⟩ : ByteArray) 64 = some (blk 0) := by
    unfold strings_Repeat.f
    rw [if_pos (by decide), if_pos (by decide), if_pos (by decide)]
    decide +kernel
  unfold disk_New.f disk_Blank.f
  rw [h1, Option.bind_some, Option.bind_some]
  unfold slices_Repeat_string_string.f
  rw [if_pos (show [blk 0].length = 1 from rfl), if_pos (by decide), if_pos (by decide)]
  rfl
theorem rdOf_nat {α : Type} (z : α) (l : List α) (i : Nat) (h : i < l.length) : rdOf z l (i : Int) = l[i] := by
  unfold rdOf
  rw [Int.toNat_natCast, List.getD_eq_getElem?_getD, List.getElem?_eq_getElem h]
  rfl
theorem rdT_nat (l : List S42) (i : Nat) (h : i < l.length) : rd_T42 l (i : Int) = l[i] := by
  unfold rd_T42
  rw [Int.toNat_natCast, List.getD_eq_getElem?_getD, List.getElem?_eq_getElem h]
  rfl
def odd (s : ByteArray) : Bool := (s.size : Int) != 64
def badw (w : S42) : Bool := decide (w.f0 < 0) || (decide (w.f0 ≥ 130) || ((w.f1.size : Int) != 64))
theorem badw_eq (w : S42) : disk_Run_1.f w.f0 w.f1 = some (badw w) := by
  unfold disk_Run_1.f badw
  by_cases h1 : w.f0 < 0
  · rw [if_pos h1, decide_eq_true h1]; rfl
  · rw [if_neg h1, decide_eq_false h1]
    by_cases h2 : w.f0 ≥ 130
    · rw [if_pos h2, decide_eq_true h2]; rfl
    · rw [if_neg h2, decide_eq_false h2]; rfl
theorem odd_l0 (l : List ByteArray) (hl : l.length ≤ 9000000000000000000) : ∀ (d i : Nat), i + d = l.length → ∀ K, d + 1 ≤ K → ∃ r, slices_IndexFunc_string_string_F39.l0 K l (l.length : Int) (i : Int) = some r ∧ decide (r ≥ 0) = (l.drop i).any odd
  | 0, i, hi, K, hK => by
    obtain ⟨m, rfl⟩ : ∃ m, K = m + 1 := ⟨K - 1, by omega⟩
    refine ⟨-1, ?_, ?_⟩
    · rw [slices_IndexFunc_string_string_F39.l0, if_neg (by omega)]
    · rw [List.drop_eq_nil_of_le (by omega)]; rfl
  | d + 1, i, hi, K, hK => by
    obtain ⟨m, rfl⟩ : ∃ m, K = m + 1 := ⟨K - 1, by omega⟩
    have hw : wrap64 ((i : Int) + 1) = ((i + 1 : Nat) : Int) := by unfold wrap64; omega
    obtain ⟨r, hr, h2⟩ := odd_l0 l hl d (i + 1) (by omega) m (by omega)
    have hlt : i < l.length := by omega
    have e1 : disk_May_1.f (rdOf ByteArray.empty l (i : Int)) = some (odd l[i]) := by rw [rdOf_nat _ _ _ hlt]; rfl
    rw [List.drop_eq_getElem_cons hlt, List.any_cons]
    by_cases h : odd l[i] = true
    · refine ⟨(i : Int), ?_, ?_⟩
      · rw [slices_IndexFunc_string_string_F39.l0, if_pos (by omega), if_pos (by omega), if_pos (by omega), e1, Option.bind_some, if_pos h]
      · rw [h, decide_eq_true (by omega)]; rfl
    · refine ⟨r, ?_, ?_⟩
      · rw [slices_IndexFunc_string_string_F39.l0, if_pos (by omega), if_pos (by omega), if_pos (by omega), e1, Option.bind_some, if_neg h, hw, hr]
      · rw [h2, Bool.eq_false_iff.mpr h]; rfl
/-- May a disk be? -/
def mayB (l : List ByteArray) : Bool := if l.length = 130 then !(l.any odd) else false
theorem may_eq (l : List ByteArray) (hl : l.length ≤ 9000000000000000000) (K : Nat) (hK : l.length + 1 ≤ K) : disk_May.f K l = some (mayB l) := by
  unfold disk_May.f mayB
  by_cases h : l.length = 130
  · rw [if_pos (by omega), if_pos h]
    unfold slices_ContainsFunc_string_string_F39.f slices_IndexFunc_string_string_F39.f
    obtain ⟨r, hr, h2⟩ := odd_l0 l hl l.length 0 (by omega) K hK
    rw [show ((0 : Nat) : Int) = 0 from rfl] at hr
    rw [hr, Option.bind_some, Option.bind_some, h2, List.drop_zero]
  · rw [if_neg (by omega), if_neg h]
theorem badw_l0 (l : List S42) (hl : l.length ≤ 9000000000000000000) : ∀ (d i : Nat), i + d = l.length → ∀ K, d + 1 ≤ K → ∃ r, api_Write_48_F35.l0 K l (l.length : Int) (i : Int) = some r ∧ decide (r ≥ 0) = (l.drop i).any badw
  | 0, i, hi, K, hK => by
    obtain ⟨m, rfl⟩ : ∃ m, K = m + 1 := ⟨K - 1, by omega⟩
    refine ⟨-1, ?_, ?_⟩
    · rw [api_Write_48_F35.l0, if_neg (by omega)]
    · rw [List.drop_eq_nil_of_le (by omega)]; rfl
  | d + 1, i, hi, K, hK => by
    obtain ⟨m, rfl⟩ : ∃ m, K = m + 1 := ⟨K - 1, by omega⟩
    have hw : wrap64 ((i : Int) + 1) = ((i + 1 : Nat) : Int) := by unfold wrap64; omega
    obtain ⟨r, hr, h2⟩ := badw_l0 l hl d (i + 1) (by omega) m (by omega)
    have hlt : i < l.length := by omega
    have e1 : disk_Run_1.f (rd_T42 l (i : Int)).f0 (rd_T42 l (i : Int)).f1 = some (badw l[i]) := by rw [rdT_nat _ _ hlt, badw_eq]
    rw [List.drop_eq_getElem_cons hlt, List.any_cons]
    by_cases h : badw l[i] = true
    · refine ⟨(i : Int), ?_, ?_⟩
      · rw [api_Write_48_F35.l0, if_pos (by omega), if_pos (by omega), if_pos (by omega), e1, Option.bind_some, if_pos h]
      · rw [h, decide_eq_true (by omega)]; rfl
    · refine ⟨r, ?_, ?_⟩
      · rw [api_Write_48_F35.l0, if_pos (by omega), if_pos (by omega), if_pos (by omega), e1, Option.bind_some, if_neg h, hw, hr]
      · rw [h2, Bool.eq_false_iff.mpr h]; rfl
theorem badws_eq (l : List S42) (hl : l.length ≤ 9000000000000000000) (K : Nat) (hK : l.length + 1 ≤ K) : api_Write_36_F35.f K l = some (l.any badw) := by
  unfold api_Write_36_F35.f api_Write_48_F35.f
  obtain ⟨r, hr, h2⟩ := badw_l0 l hl l.length 0 (by omega) K hK
  rw [show ((0 : Nat) : Int) = 0 from rfl] at hr
  rw [hr, Option.bind_some, h2, List.drop_zero]
/-- Whole writes. -/
def puts (d : List ByteArray) (ws : List S42) : List ByteArray := ws.foldl (fun d w => d.set w.f0.toNat w.f1) d
theorem puts_nil (d : List ByteArray) : puts d [] = d := rfl
theorem puts_cons (d : List ByteArray) (w : S42) (ws : List S42) : puts d (w :: ws) = puts (d.set w.f0.toNat w.f1) ws := rfl
theorem puts_append (d : List ByteArray) (ws vs : List S42) : puts d (ws ++ vs) = puts (puts d ws) vs := List.foldl_append
theorem puts_length (ws : List S42) : ∀ d : List ByteArray, (puts d ws).length = d.length := by
  induction ws with
  | nil => intro d; rfl
  | cons w ws ih => intro d; rw [puts_cons, ih, List.length_set]
theorem badw_false {w : S42} (h : badw w = false) : 0 ≤ w.f0 ∧ w.f0 < 130 ∧ w.f1.size = 64 := by
  unfold badw at h
  rw [Bool.or_eq_false_iff, Bool.or_eq_false_iff, decide_eq_false_iff_not, decide_eq_false_iff_not, bne_eq_false_iff_eq] at h
  omega
theorem any_false {α : Type} {p : α → Bool} {l : List α} (h : l.any p = false) {x : α} (hx : x ∈ l) : p x = false := by
  rw [Bool.eq_false_iff]
  intro hp
  have : l.any p = true := List.any_eq_true.mpr ⟨x, hx, hp⟩
  rw [h] at this
  exact absurd this (by simp)
/-- A disk behind some whole writes, and a torn one. -/
def ran (d : List ByteArray) (ws : List S42) (n t : Nat) : List ByteArray :=
  if h : n < ws.length then (puts d (ws.take n)).set ws[n].f0.toNat (ws[n].f1.extract 0 t ++ ((puts d (ws.take n)).getD ws[n].f0.toNat ByteArray.empty).extract t ((puts d (ws.take n)).getD ws[n].f0.toNat ByteArray.empty).size) else puts d (ws.take n)
def fine (l : List ByteArray) : Prop := l.length = 130 ∧ ∀ s ∈ l, s.size = 64
theorem mayB_true {l : List ByteArray} : mayB l = true ↔ fine l := by
  unfold mayB fine
  by_cases h : l.length = 130
  · rw [if_pos h]
    constructor
    · intro h1
      refine ⟨h, fun s hs => ?_⟩
      have := any_false (by simpa using h1) hs
      unfold odd at this
      rw [bne_eq_false_iff_eq] at this
      omega
    · rintro ⟨_, h2⟩
      rw [Bool.not_eq_true', Bool.eq_false_iff]
      intro h3
      obtain ⟨s, hs, h4⟩ := List.any_eq_true.mp h3
      unfold odd at h4
      rw [bne_iff_ne] at h4
      have := h2 s hs
      omega
  · rw [if_neg h]
    simp [h]
theorem fine_set {l : List ByteArray} (h : fine l) (i : Nat) {s : ByteArray} (hs : s.size = 64) : fine (l.set i s) := by
  refine ⟨by rw [List.length_set]; exact h.1, fun x hx => ?_⟩
  rcases List.mem_or_eq_of_mem_set hx with h1 | h1
  · exact h.2 x h1
  · rw [h1]; exact hs
theorem fine_puts : ∀ (ws : List S42) (d : List ByteArray), fine d → ws.any badw = false → fine (puts d ws)
  | [], d, h, _ => h
  | w :: ws, d, h, hw => by
    rw [puts_cons]
    rw [List.any_cons, Bool.or_eq_false_iff] at hw
    exact fine_puts ws _ (fine_set h _ (badw_false hw.1).2.2) hw.2
theorem fine_get {l : List ByteArray} (h : fine l) {i : Nat} (hi : i < 130) : (l.getD i ByteArray.empty).size = 64 := by
  rw [List.getD_eq_getElem?_getD, List.getElem?_eq_getElem (by have := h.1; omega)]
  exact h.2 _ (List.getElem_mem _)
theorem torn_size {a b : ByteArray} (ha : a.size = 64) (hb : b.size = 64) {t : Nat} (ht : t ≤ 64) : (a.extract 0 t ++ b.extract t b.size).size = 64 := by
  rw [ByteArray.size_append, ByteArray.size_extract, ByteArray.size_extract]
  omega
theorem any_take {α : Type} {p : α → Bool} {l : List α} (h : l.any p = false) (n : Nat) : (l.take n).any p = false := by
  rw [Bool.eq_false_iff]
  intro h1
  obtain ⟨x, hx, h2⟩ := List.any_eq_true.mp h1
  have := any_false h (List.mem_of_mem_take hx)
  rw [h2] at this
  exact absurd this (by simp)
theorem any_drop {α : Type} {p : α → Bool} {l : List α} (h : l.any p = false) (n : Nat) : (l.drop n).any p = false := by
  rw [Bool.eq_false_iff]
  intro h1
  obtain ⟨x, hx, h2⟩ := List.any_eq_true.mp h1
  have := any_false h (List.mem_of_mem_drop hx)
  rw [h2] at this
  exact absurd this (by simp)
theorem fine_ran {d : List ByteArray} {ws : List S42} {n t : Nat} (h : fine d) (hw : ws.any badw = false) (ht : t ≤ 64) : fine (ran d ws n t) := by
  have h1 := fine_puts (ws.take n) d h (any_take hw n)
  unfold ran
  by_cases hn : n < ws.length
  · rw [dif_pos hn]
    have hb := badw_false (any_false hw (List.getElem_mem hn))
    exact fine_set h1 _ (torn_size hb.2.2 (fine_get h1 (by omega)) ht)
  · rw [dif_neg hn]
    exact h1
theorem run_l0 (ws : List S42) (n t : Nat) (hws : ws.any badw = false) (hl : ws.length ≤ 9000000000000000000) (hn : n ≤ ws.length) (ht : t ≤ 64) : ∀ (q i : Nat), i + q = n → ∀ K, q + 1 ≤ K → ∀ d : List ByteArray, fine d →
    disk_Run.l0 K ws (n : Int) (t : Int) d (ws.take n) (n : Int) (i : Int) = some (ran (puts d ((ws.take n).drop i)) (ws.drop n) 0 t, 0)
  | 0, i, hi, K, hK, d, hd => by
    obtain ⟨m, rfl⟩ : ∃ m, K = m + 1 := ⟨K - 1, by omega⟩
    have e0 : (ws.take n).drop i = [] := List.drop_eq_nil_of_le (by rw [List.length_take]; omega)
    rw [disk_Run.l0, if_neg (by omega), e0, puts_nil]
    by_cases h : n < ws.length
    · have hr : rd_T42 ws (n : Int) = ws[n] := rdT_nat _ _ h
      have hb := badw_false (any_false hws (List.getElem_mem h))
      have h0 : (ws.drop n)[0]'(by rw [List.length_drop]; omega) = ws[n] := by rw [List.getElem_drop]; rfl
      rw [if_pos (by omega), if_pos (by omega), if_pos (by omega), hr, if_pos (by omega), if_pos hb.1, if_pos (by have := hd.1; omega)]
      unfold rdOf
      have hg := fine_get hd (i := ws[n].f0.toNat) (by omega)
      have hs := torn_size hb.2.2 hg ht
      rw [ByteArray.size_append] at hs
      rw [if_pos (by omega), Int.toNat_natCast, if_pos (by omega)]
      unfold ran
      rw [dif_pos (by rw [List.length_drop]; omega), h0]
      rfl
    · rw [if_neg (by omega)]
      unfold ran
      rw [dif_neg (by rw [List.length_drop]; omega)]
      rfl
  | q + 1, i, hi, K, hK, d, hd => by
    obtain ⟨m, rfl⟩ : ∃ m, K = m + 1 := ⟨K - 1, by omega⟩
    have hw : wrap64 ((i : Int) + 1) = ((i + 1 : Nat) : Int) := by unfold wrap64; omega
    have hlt : i < (ws.take n).length := by rw [List.length_take]; omega
    have hr : rd_T42 (ws.take n) (i : Int) = (ws.take n)[i] := rdT_nat _ _ hlt
    have hb := badw_false (any_false (any_take hws n) (List.getElem_mem hlt))
    rw [disk_Run.l0, if_pos (by omega), if_pos (by omega), if_pos (by omega), hr, if_pos hb.1, if_pos (by have := hd.1; omega), hw, run_l0 ws n t hws hl hn ht q (i + 1) (by omega) m (by omega) _ (fine_set hd _ hb.2.2), List.drop_eq_getElem_cons hlt, puts_cons]
theorem ran_eq (d : List ByteArray) (ws : List S42) (n t : Nat) (hn : n ≤ ws.length) : ran (puts d (ws.take n)) (ws.drop n) 0 t = ran d ws n t := by
  unfold ran
  by_cases h : n < ws.length
  · have h0 : (ws.drop n)[0]'(by rw [List.length_drop]; omega) = ws[n] := by rw [List.getElem_drop]; rfl
    rw [dif_pos h, dif_pos (by rw [List.length_drop]; omega), h0]
    rfl
  · rw [dif_neg h, dif_neg (by rw [List.length_drop]; omega)]
    rfl
theorem run_ok (d : List ByteArray) (ws : List S42) (n t : Nat) (hd : fine d) (hws : ws.any badw = false) (hl : ws.length ≤ 9000000000000000000) (hn : n ≤ ws.length) (ht : t ≤ 64) (h : t = 0 ∨ n < ws.length) (K : Nat) (hK : ws.length + 200 ≤ K) :
    disk_Run.f K d ws (n : Int) (t : Int) = some (ran d ws n t, 0) := by
  obtain ⟨m, rfl⟩ : ∃ m, K = m + 1 := ⟨K - 1, by omega⟩
  unfold disk_Run.f
  rw [may_eq d (by have := hd.1; omega) _ (by have := hd.1; omega), Option.bind_some, mayB_true.mpr hd, if_pos rfl, badws_eq ws hl _ (by omega), Option.bind_some, hws, if_neg (by decide), if_neg (by omega), if_neg (by omega), if_neg (by omega), if_neg (by omega)]
  have j : disk_Run.j0 (m + 1) d ws (n : Int) (t : Int) false = some (ran d ws n t, 0) := by
    rw [disk_Run.j0, if_neg (by decide)]
    unfold slices_Clone_string_string.f
    rw [if_pos (by have := hd.1; omega), Option.bind_some, if_pos (by omega), if_pos (by omega), Option.bind_some, Int.toNat_natCast]
    have hL : ((ws.take n).length : Int) = (n : Int) := by rw [List.length_take]; omega
    rw [hL]
    have := run_l0 ws n t hws hl hn ht n 0 (by omega) m (by omega) d hd
    rw [show ((0 : Nat) : Int) = 0 from rfl, List.drop_zero] at this
    rw [this, ran_eq d ws n t hn]
  by_cases ht0 : (t : Int) > 0
  · rw [if_pos ht0, show ((n : Int) == (ws.length : Int)) = false from beq_eq_false_iff_ne.mpr (by omega)]
    exact j
  · rw [if_neg ht0]
    exact j
theorem run_bad (d : List ByteArray) (ws : List S42) (n t : Int) (hl : ws.length ≤ 9000000000000000000) (hld : d.length ≤ 9000000000000000000) (h : mayB d = false ∨ ws.any badw = true ∨ n < 0 ∨ n > ws.length ∨ t < 0 ∨ t > 64 ∨ t > 0 ∧ n = ws.length) (K : Nat) (hK : ws.length + d.length + 2 ≤ K) :
    disk_Run.f K d ws n t = some ([], 1700) := by
  obtain ⟨m, rfl⟩ : ∃ m, K = m + 1 := ⟨K - 1, by omega⟩
  have j : disk_Run.j0 (m + 1) d ws n t true = some ([], 1700) := by rw [disk_Run.j0, if_pos rfl]
  unfold disk_Run.f
  rw [may_eq d hld _ (by omega), Option.bind_some]
  by_cases h1 : mayB d = true
  · rw [if_pos h1, badws_eq ws hl _ (by omega), Option.bind_some]
    by_cases h2 : ws.any badw = true
    · rw [if_pos h2]; exact j
    · rw [if_neg h2]
      by_cases h3 : n < 0
      · rw [if_pos h3]; exact j
      · rw [if_neg h3]
        by_cases h4 : n > ws.length
        · rw [if_pos h4]; exact j
        · rw [if_neg h4]
          by_cases h5 : t < 0
          · rw [if_pos h5]; exact j
          · rw [if_neg h5]
            by_cases h6 : t > 64
            · rw [if_pos h6]; exact j
            · rw [if_neg h6]
              have h7 : t > 0 ∧ n = ws.length := by
                rcases h with h | h | h | h | h | h | h
                · rw [h] at h1; exact absurd h1 (by simp)
                · exact absurd h h2
                · exact absurd h h3
                · exact absurd h h4
                · exact absurd h h5
                · exact absurd h h6
                · exact h
              rw [if_pos h7.1, show (n == (ws.length : Int)) = true from beq_iff_eq.mpr h7.2]
              exact j
  · rw [if_neg h1]; exact j
end Go.Proofs.Ytdccnjinehcenaa.DD
