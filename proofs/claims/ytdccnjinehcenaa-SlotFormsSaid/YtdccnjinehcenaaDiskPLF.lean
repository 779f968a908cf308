/- Chapter 17 over plain lists: blocks, disks, runs; no program in sight. -/
import Derived.Test.YtdccnjinehcenaaLF3
namespace Go.Proofs.Ytdccnjinehcenaa.LF
set_option linter.unusedVariables false
set_option linter.unusedSimpArgs false
open Go.RowKit Go.Proofs.YtdccnjinehcenaaW.PrintWords Go.Proofs.YtdccnjinehcenaaW.PrintLast Go.Proofs.YtdccnjinehcenaaW.PrintMore
/-- A block of one byte. -/
def blk (c : Int) : ByteArray := strOfNums (List.replicate 64 c)
theorem blk_size (c : Int) : (blk c).size = 64 := by unfold blk; rw [strOfNums_size, List.length_replicate]
theorem rdOf_nat {α : Type} (z : α) (l : List α) (i : Nat) (h : i < l.length) : rdOf z l (i : Int) = l[i] := by
  unfold rdOf
  rw [Int.toNat_natCast, List.getD_eq_getElem?_getD, List.getElem?_eq_getElem h]
  rfl
theorem rdT_nat (l : List S42) (i : Nat) (h : i < l.length) : rd_T42 l (i : Int) = l[i] := by
  unfold rd_T42
  rw [Int.toNat_natCast, List.getD_eq_getElem?_getD, List.getElem?_eq_getElem h]
  rfl
def odd (s : ByteArray) : Bool := (s.size : Int) != 64
def badw (w : S42) : Bool := decide (w.f0 < 0) || (decide (w.f0 ≥ 130) || ((w.f1.size : Int) != 64))
/-- May a disk be? -/
def mayB (l : List ByteArray) : Bool := if l.length = 130 then !(l.any odd) else false
/-- Whole writes. -/
def puts (d : List ByteArray) (ws : List S42) : List ByteArray := ws.foldl (fun d w => d.set w.f0.toNat w.f1) d
theorem puts_nil (d : List ByteArray) : puts d [] = d := rfl
theorem puts_cons (d : List ByteArray) (w : S42) (ws : List S42) : puts d (w :: ws) = puts (d.set w.f0.toNat w.f1) ws := rfl
theorem puts_append (d : List ByteArray) (ws vs : List S42) : puts d (ws ++ vs) = puts (puts d ws) vs := List.foldl_append
theorem puts_length (ws : List S42) : ∀ d : List ByteArray, (puts d ws).length = d.length := by
  induction ws with
  | nil => intro d; rfl
  | cons w ws ih => intro d; rw [puts_cons, ih, List.length_set]
theorem badw_false {w : S42} (h : badw w = false) : 0 ≤ w.f0 ∧ w.f0 < 130 ∧ w.f1.size = 64 := by
  unfold badw at h
  rw [Bool.or_eq_false_iff, Bool.or_eq_false_iff, decide_eq_false_iff_not, decide_eq_false_iff_not, bne_eq_false_iff_eq] at h
  omega
theorem any_false {α : Type} {p : α → Bool} {l : List α} (h : l.any p = false) {x : α} (hx : x ∈ l) : p x = false := by
  rw [Bool.eq_false_iff]
  intro hp
  have : l.any p = true := List.any_eq_true.mpr ⟨x, hx, hp⟩
  rw [h] at this
  exact absurd this (by simp)
/-- A disk behind some whole writes, and a torn one. -/
def ran (d : List ByteArray) (ws : List S42) (n t : Nat) : List ByteArray :=
  if h : n < ws.length then (puts d (ws.take n)).set ws[n].f0.toNat (ws[n].f1.extract 0 t ++ ((puts d (ws.take n)).getD ws[n].f0.toNat ByteArray.empty).extract t ((puts d (ws.take n)).getD ws[n].f0.toNat ByteArray.empty).size) else puts d (ws.take n)
def fine (l : List ByteArray) : Prop := l.length = 130 ∧ ∀ s ∈ l, s.size = 64
theorem mayB_true {l : List ByteArray} : mayB l = true ↔ fine l := by
  unfold mayB fine
  by_cases h : l.length = 130
  · rw [if_pos h]
    constructor
    · intro h1
      refine ⟨h, fun s hs => ?_⟩
      have := any_false (by simpa using h1) hs
      unfold odd at this
      rw [bne_eq_false_iff_eq] at this
      omega
    · rintro ⟨_, h2⟩
      rw [Bool.not_eq_true', Bool.eq_false_iff]
      intro h3
      obtain ⟨s, hs, h4⟩ := List.any_eq_true.mp h3
      unfold odd at h4
      rw [bne_iff_ne] at h4
      have := h2 s hs
      omega
  · rw [if_neg h]
    simp [h]
theorem fine_set {l : List ByteArray} (h : fine l) (i : Nat) {s : ByteArray} (hs : s.size = 64) : fine (l.set i s) := by
  refine ⟨by rw [List.length_set]; exact h.1, fun x hx => ?_⟩
  rcases List.mem_or_eq_of_mem_set hx with h1 | h1
  · exact h.2 x h1
  · rw [h1]; exact hs
theorem fine_puts : ∀ (ws : List S42) (d : List ByteArray), fine d → ws.any badw = false → fine (puts d ws)
  | [], d, h, _ => h
  | w :: ws, d, h, hw => by
    rw [puts_cons]
    rw [List.any_cons, Bool.or_eq_false_iff] at hw
    exact fine_puts ws _ (fine_set h _ (badw_false hw.1).2.2) hw.2
theorem fine_get {l : List ByteArray} (h : fine l) {i : Nat} (hi : i < 130) : (l.getD i ByteArray.empty).size = 64 := by
  rw [List.getD_eq_getElem?_getD, List.getElem?_eq_getElem (by have := h.1; omega)]
  exact h.2 _ (List.getElem_mem _)
theorem torn_size {a b : ByteArray} (ha : a.size = 64) (hb : b.size = 64) {t : Nat} (ht : t ≤ 64) : (a.extract 0 t ++ b.extract t b.size).size = 64 := by
  rw [ByteArray.size_append, ByteArray.size_extract, ByteArray.size_extract]
  omega
theorem any_take {α : Type} {p : α → Bool} {l : List α} (h : l.any p = false) (n : Nat) : (l.take n).any p = false := by
  rw [Bool.eq_false_iff]
  intro h1
  obtain ⟨x, hx, h2⟩ := List.any_eq_true.mp h1
  have := any_false h (List.mem_of_mem_take hx)
  rw [h2] at this
  exact absurd this (by simp)
theorem any_drop {α : Type} {p : α → Bool} {l : List α} (h : l.any p = false) (n : Nat) : (l.drop n).any p = false := by
  rw [Bool.eq_false_iff]
  intro h1
  obtain ⟨x, hx, h2⟩ := List.any_eq_true.mp h1
  have := any_false h (List.mem_of_mem_drop hx)
  rw [h2] at this
  exact absurd this (by simp)
theorem fine_ran {d : List ByteArray} {ws : List S42} {n t : Nat} (h : fine d) (hw : ws.any badw = false) (ht : t ≤ 64) : fine (ran d ws n t) := by
  have h1 := fine_puts (ws.take n) d h (any_take hw n)
  unfold ran
  by_cases hn : n < ws.length
  · rw [dif_pos hn]
    have hb := badw_false (any_false hw (List.getElem_mem hn))
    exact fine_set h1 _ (torn_size hb.2.2 (fine_get h1 (by omega)) ht)
  · rw [dif_neg hn]
    exact h1
theorem ran_eq (d : List ByteArray) (ws : List S42) (n t : Nat) (hn : n ≤ ws.length) : ran (puts d (ws.take n)) (ws.drop n) 0 t = ran d ws n t := by
  unfold ran
  by_cases h : n < ws.length
  · have h0 : (ws.drop n)[0]'(by rw [List.length_drop]; omega) = ws[n] := by rw [List.getElem_drop]; rfl
    rw [dif_pos h, dif_pos (by rw [List.length_drop]; omega), h0]
    rfl
  · rw [dif_neg h, dif_neg (by rw [List.length_drop]; omega)]
    rfl
end Go.Proofs.Ytdccnjinehcenaa.LF
