import Derived.Test.YtnjbbfcknijcnaaExtraPE
import Derived.Test.YtnjbbfcknijcnaaE8
import Derived.Test.YtnjbbfcknijcnaaE6
import Derived.Test.YtnjbbfcknijcnaaBits
namespace Go.Proofs.Ytnjbbfcknijcnaa.Pure
set_option linter.unusedVariables false
set_option linter.unusedSimpArgs false
open Go.RowKit Go.Proofs.Ytnjbbfcknijcnaa.E Go.Proofs.YtnjbbfcknijcnaaW.PrintWords Go.Proofs.YtnjbbfcknijcnaaW.PrintLast Go.Proofs.YtnjbbfcknijcnaaW.PrintMore
namespace Counts
theorem awake_true {k : Nat} (hk : 150 ≤ k) : portagelaw12_awake.f k = some true := at_rounds (g := fun k => portagelaw12_awake.f k) portagelaw12_awake.mono hk (by decide +kernel)
theorem num1 (n : Int) : portagelaw0_Num.f n = some n := rfl
theorem bt_str {l : List Int} (h : isBytes l) (i : Nat) (x : Int) (hi : l[i]? = some x) : bt (strOfNums l) (i : Int) = x := by
  obtain ⟨hl, e⟩ := List.getElem?_eq_some_iff.mp hi
  have hz : (strOfNums l).size = l.length := strOfNums_size l
  have e1 := (bt_at (strOfNums l) (i : Int) (by omega)).symm
  rw [e1]
  have h2 : (strOfNums l).data.toList[i]? = some (UInt8.ofNat x.toNat) := by
    rw [strOfNums_data, List.getElem?_map, hi]; rfl
  have hz2 : (strOfNums l).data.toList.length = l.length := hz
  rw [List.getElem?_eq_getElem (by omega)] at h2
  injection h2 with h2
  have h3 : (strOfNums l)[(i : Int).toNat]'(by omega) = UInt8.ofNat x.toNat := h2
  obtain ⟨h0, h1⟩ := h x (e ▸ List.getElem_mem hl)
  rw [h3, UInt8.toNat_ofNat_of_lt' (show x.toNat < UInt8.size by show x.toNat < 256; omega)]
  omega
/-- Four bytes, put together again. -/
theorem four_or (X : Nat) (hX : X < 4294967296) : Go.bits .or .i64 (Go.bits .or .i64 (Go.bits .or .i64 (wrap64 (lowB (X : Int) 0)) (wrap64 ((wrap64 (lowB (X : Int) 1)) * 256))) (wrap64 ((wrap64 (lowB (X : Int) 2)) * 65536))) (wrap64 ((wrap64 (lowB (X : Int) 3)) * 16777216)) = (X : Int) := by
  rw [lowB_nat X 0 (by omega), lowB_nat X 1 (by omega), lowB_nat X 2 (by omega), lowB_nat X 3 (by omega)]
  have e0 : X / 2 ^ (8 * 0) % 256 = X % 256 := by simp
  have e1 : X / 2 ^ (8 * 1) % 256 = X / 256 % 256 := by simp
  have e2 : X / 2 ^ (8 * 2) % 256 = X / 65536 % 256 := by simp
  have e3 : X / 2 ^ (8 * 3) % 256 = X / 16777216 % 256 := by simp
  rw [e0, e1, e2, e3]
  rw [w64 (n := ((X % 256 : Nat) : Int)) (by omega) (by omega), w64 (n := ((X / 256 % 256 : Nat) : Int)) (by omega) (by omega), w64 (n := ((X / 65536 % 256 : Nat) : Int)) (by omega) (by omega), w64 (n := ((X / 16777216 % 256 : Nat) : Int)) (by omega) (by omega),
    w64 (n := ((X / 256 % 256 : Nat) : Int) * 256) (by omega) (by omega), w64 (n := ((X / 65536 % 256 : Nat) : Int) * 65536) (by omega) (by omega), w64 (n := ((X / 16777216 % 256 : Nat) : Int) * 16777216) (by omega) (by omega)]
  have o1 := Bits.or_add (X % 256) (X / 256 % 256) 8 (by omega) (by omega)
  have o2 := Bits.or_add (X % 65536) (X / 65536 % 256) 16 (by omega) (by omega)
  have o3 := Bits.or_add (X % 16777216) (X / 16777216 % 256) 24 (by omega) (by omega)
  rw [show ((X / 256 % 256 : Nat) : Int) * 256 = ((X / 256 % 256 * 2 ^ 8 : Nat) : Int) from by omega, o1, show X % 256 + X / 256 % 256 * 2 ^ 8 = X % 65536 from by omega,
    show ((X / 65536 % 256 : Nat) : Int) * 65536 = ((X / 65536 % 256 * 2 ^ 16 : Nat) : Int) from by omega, o2, show X % 65536 + X / 65536 % 256 * 2 ^ 16 = X % 16777216 from by omega,
    show ((X / 16777216 % 256 : Nat) : Int) * 16777216 = ((X / 16777216 % 256 * 2 ^ 24 : Nat) : Int) from by omega, o3]
  omega
theorem ix (i : Nat) (hi : i ≤ 4) : wrap64 (4 + wrap64 (4 * (i : Int))) = ((4 + 4 * i : Nat) : Int) ∧ wrap64 (((4 + 4 * i : Nat) : Int) + 1) = ((4 + 4 * i + 1 : Nat) : Int) ∧ wrap64 (((4 + 4 * i : Nat) : Int) + 2) = ((4 + 4 * i + 2 : Nat) : Int) ∧ wrap64 (((4 + 4 * i : Nat) : Int) + 3) = ((4 + 4 * i + 3 : Nat) : Int) ∧ wrap64 ((i : Int) + 1) = ((i + 1 : Nat) : Int) := by
  rw [w64 (n := 4 * (i : Int)) (by omega) (by omega), w64 (n := 4 + 4 * (i : Int)) (by omega) (by omega), w64 (n := ((4 + 4 * i : Nat) : Int) + 1) (by omega) (by omega), w64 (n := ((4 + 4 * i : Nat) : Int) + 2) (by omega) (by omega), w64 (n := ((4 + 4 * i : Nat) : Int) + 3) (by omega) (by omega), w64 (n := (i : Int) + 1) (by omega) (by omega)]
  refine ⟨?_, ?_, ?_, ?_, ?_⟩ <;> omega
theorem cx (i : Nat) (hi : i ≤ 4) : (i : Int) ≤ 4 ∧ (0 : Int) ≤ ((4 + 4 * i : Nat) : Int) ∧ ((4 + 4 * i : Nat) : Int) < ((26 : Nat) : Int) ∧ (0 : Int) ≤ ((4 + 4 * i + 1 : Nat) : Int) ∧ ((4 + 4 * i + 1 : Nat) : Int) < ((26 : Nat) : Int) ∧ (0 : Int) ≤ ((4 + 4 * i + 2 : Nat) : Int) ∧ ((4 + 4 * i + 2 : Nat) : Int) < ((26 : Nat) : Int) ∧ (0 : Int) ≤ ((4 + 4 * i + 3 : Nat) : Int) ∧ ((4 + 4 * i + 3 : Nat) : Int) < ((26 : Nat) : Int) ∧ (0 : Int) ≤ (i : Int) := by
  refine ⟨?_, ?_, ?_, ?_, ?_, ?_, ?_, ?_, ?_, ?_⟩ <;> omega
theorem step (s : ByteArray) (n : ByteArray) (g : Bool) (v : List Int) (stamp node m : Int) (p : ByteArray) (z c : Int) (i X : Nat) (hi : i ≤ 4) (hX : X < 4294967296) (hz : s.size = 26)
    (h0 : bt s ((4 + 4 * i : Nat) : Int) = lowB (X : Int) 0) (h1 : bt s ((4 + 4 * i + 1 : Nat) : Int) = lowB (X : Int) 1) (h2 : bt s ((4 + 4 * i + 2 : Nat) : Int) = lowB (X : Int) 2) (h3 : bt s ((4 + 4 * i + 3 : Nat) : Int) = lowB (X : Int) 3)
    (hv : v.length = 4) (hvi : i < 4 → rd v (i : Int) = (X : Int)) (hs : i = 4 → stamp = (X : Int)) (K : Nat) :
    portagelaw12_ExtraCounts.l1 (K + 1) s (i : Int) n g v stamp node m p z c = portagelaw12_ExtraCounts.l1 K s ((i + 1 : Nat) : Int) n g v stamp node m p z c := by
  obtain ⟨e, e1, e2, e3, e4⟩ := ix i hi
  obtain ⟨c0, c1, c2, c3, c4, c5, c6, c7, c8, c9⟩ := cx i hi
  rw [portagelaw12_ExtraCounts.l1, if_pos c0, e, e1, e2, e3, e4, h0, h1, h2, h3, four_or X hX, hz]
  rw [if_pos c1, if_pos c2, if_pos c3, if_pos c4, if_pos c5, if_pos c6, if_pos c7, if_pos c8]
  clear h0 h1 h2 h3 e e1 e2 e3 e4
  by_cases h : i < 4
  · rw [if_pos (by omega), if_pos c9, if_pos (by omega), hvi h, if_pos rfl, if_neg (by omega)]
  · rw [if_neg (by omega), if_pos (by omega), hs (by omega), if_pos rfl]
theorem low4 (x : Int) : lowL x 4 = [lowB x 0, lowB x 1, lowB x 2, lowB x 3] := rfl
theorem low1 (x : Int) : lowL x 1 = [lowB x 0] := rfl
theorem lowB_byte (x : Int) (i : Nat) : 0 ≤ lowB x i ∧ lowB x i < 256 := by unfold lowB; omega
theorem run (a b c d s n : Nat) (hm : mayE [(a : Int), b, c, d] s n = true) {k : Nat} (hk : 100 ≤ k) : portagelaw12_ExtraCounts.j1 k ⟨#[]⟩ false [(a : Int), b, c, d] s n 0 ⟨#[]⟩ 0 0 = some true := by
  obtain ⟨q, rfl⟩ : ∃ q, k = q + 8 := ⟨k - 8, by omega⟩
  obtain ⟨_, hx, hs, hn⟩ := mayE_parts hm
  have ha := hx (a : Int) (by simp)
  have hb := hx (b : Int) (by simp)
  have hc := hx (c : Int) (by simp)
  have hd := hx (d : Int) (by simp)
  have eL : putL [(a : Int), b, c, d] s n false = [112, 80, 22, 0, lowB (a : Int) 0, lowB (a : Int) 1, lowB (a : Int) 2, lowB (a : Int) 3, lowB (b : Int) 0, lowB (b : Int) 1, lowB (b : Int) 2, lowB (b : Int) 3, lowB (c : Int) 0, lowB (c : Int) 1, lowB (c : Int) 2, lowB (c : Int) 3, lowB (d : Int) 0, lowB (d : Int) 1, lowB (d : Int) 2, lowB (d : Int) 3, lowB (s : Int) 0, lowB (s : Int) 1, lowB (s : Int) 2, lowB (s : Int) 3, lowB (n : Int) 0, 0] := by
    unfold putL endL
    rw [show lowL 20592 2 = [112, 80] from by decide, show lowL 22 2 = [22, 0] from by decide, show lowL (if false = true then 1 else 0) 1 = [0] from by decide, low4, low1]
    simp only [List.flatMap_cons, List.flatMap_nil, low4, List.cons_append, List.nil_append, List.append_nil]
  have hB : isBytes (putL [(a : Int), b, c, d] s n false) := by
    rw [eL]
    intro x hx
    simp only [List.mem_cons, List.not_mem_nil, or_false] at hx
    have hl := lowB_byte
    rcases hx with h | h | h | h | h | h | h | h | h | h | h | h | h | h | h | h | h | h | h | h | h | h | h | h | h | h <;> subst h <;> first | exact hl _ _ | omega
  have hz : (strOfNums (putL [(a : Int), b, c, d] s n false)).size = 26 := by rw [strOfNums_size, eL]; rfl
  have hbt := fun (i : Nat) (x : Int) (h : (putL [(a : Int), b, c, d] s n false)[i]? = some x) => bt_str hB i x h
  rw [portagelaw12_ExtraCounts.j1, put_k _ _ _ _ _ _ _ _ _ (by omega), Option.bind_some, if_pos hm]
  dsimp only
  rw [num1, Option.bind_some, if_pos rfl, hz, show (((26 : Nat) : Int) != 26) = false from rfl, portagelaw12_ExtraCounts.j2, if_neg (by decide)]
  generalize hS : strOfNums (putL [(a : Int), b, c, d] s n false) = S at hbt hz ⊢
  rw [eL] at hbt
  rw [show (0 : Int) = ((0 : Nat) : Int) from rfl]
  rw [step S _ _ _ _ _ _ _ _ _ 0 a (by omega) (by omega) hz (hbt _ _ rfl) (hbt _ _ rfl) (hbt _ _ rfl) (hbt _ _ rfl) rfl (fun _ => rfl) (fun h => absurd h (by omega)),
    step S _ _ _ _ _ _ _ _ _ 1 b (by omega) (by omega) hz (hbt _ _ rfl) (hbt _ _ rfl) (hbt _ _ rfl) (hbt _ _ rfl) rfl (fun _ => rfl) (fun h => absurd h (by omega)),
    step S _ _ _ _ _ _ _ _ _ 2 c (by omega) (by omega) hz (hbt _ _ rfl) (hbt _ _ rfl) (hbt _ _ rfl) (hbt _ _ rfl) rfl (fun _ => rfl) (fun h => absurd h (by omega)),
    step S _ _ _ _ _ _ _ _ _ 3 d (by omega) (by omega) hz (hbt _ _ rfl) (hbt _ _ rfl) (hbt _ _ rfl) (hbt _ _ rfl) rfl (fun _ => rfl) (fun h => absurd h (by omega)),
    step S _ _ _ _ _ _ _ _ _ 4 s (by omega) (by omega) hz (hbt _ _ rfl) (hbt _ _ rfl) (hbt _ _ rfl) (hbt _ _ rfl) rfl (fun h => absurd h (by omega)) (fun _ => rfl)]
  have b24 : bt S 24 = lowB (n : Int) 0 := hbt 24 _ rfl
  have b25 : bt S 25 = 0 := hbt 25 _ rfl
  have hln : lowB (n : Int) 0 = (n : Int) := by
    rw [lowB_nat n 0 (by omega)]
    have : n / 2 ^ (8 * 0) % 256 = n := by rw [show 2 ^ (8 * 0) = 1 from rfl, Nat.div_one]; omega
    rw [this]
  have hx4 : S.extract 0 4 = strOfNums [112, 80, 22, 0] := by
    rw [← hS, str_take, eL]
    rfl
  rw [portagelaw12_ExtraCounts.l1, if_neg (by omega), if_pos (by omega), b24, hln, w64 (by omega) (by omega), if_pos rfl, if_pos (by omega), b25, if_pos rfl, if_pos (by omega), if_pos (by omega), hx4, show ((strOfNums [112, 80, 22, 0]).toList == ([112, 80, 22, 0] : List UInt8)) = true from by decide +kernel]
theorem and_even (n : Int) : 0 ≤ Go.bits .and .i64 n 1048574 ∧ Go.bits .and .i64 n 1048574 ≤ 1048574 := by
  have key : (BitVec.ofInt 64 n &&& BitVec.ofInt 64 1048574).toNat ≤ 1048574 := by
    rw [BitVec.toNat_and, show (BitVec.ofInt 64 1048574).toNat = 1048574 from rfl]
    exact Nat.and_le_right
  show 0 ≤ IntKind.i64.wrap ((BitVec.ofInt 64 n &&& BitVec.ofInt 64 1048574).toNat : Nat) ∧ IntKind.i64.wrap ((BitVec.ofInt 64 n &&& BitVec.ofInt 64 1048574).toNat : Nat) ≤ 1048574
  generalize (BitVec.ofInt 64 n &&& BitVec.ofInt 64 1048574).toNat = q at key ⊢
  rw [Bits.wrap_in (by omega) (by omega)]
  omega
theorem may_of (x : List Int) (s n : Int) (hx : x.length = 4) (hy : ∀ y ∈ x, 0 ≤ y ∧ y ≤ 1048575) (hs : 1 ≤ s ∧ s ≤ 1048576) (hn : 0 ≤ n ∧ n < 4) : mayE x s n = true := by
  unfold mayE vok okc nodeOk
  simp only [Bool.and_eq_true, decide_eq_true_eq, List.all_eq_true]
  exact ⟨⟨hx, fun y h => ⟨(hy y h).1, by have := (hy y h).2; omega⟩⟩, hs.1, ⟨by omega, by omega⟩, hn⟩
theorem runs (x : List Int) (s n : Int) (hx : x.length = 4) (hy : ∀ y ∈ x, 0 ≤ y ∧ y ≤ 1048575) (hs : 1 ≤ s ∧ s ≤ 1048576) (hn : 0 ≤ n ∧ n < 4) {k : Nat} (hk : 100 ≤ k) : portagelaw12_ExtraCounts.j1 k ⟨#[]⟩ false x s n 0 ⟨#[]⟩ 0 0 = some true := by
  have hm := may_of x s n hx hy hs hn
  match x, hx with
  | [a, b, c, d], _ =>
    have ha := hy a (by simp)
    have hb := hy b (by simp)
    have hc := hy c (by simp)
    have hd := hy d (by simp)
    obtain ⟨a, rfl⟩ : ∃ a' : Nat, a = (a' : Int) := ⟨a.toNat, by omega⟩
    obtain ⟨b, rfl⟩ : ∃ a' : Nat, b = (a' : Int) := ⟨b.toNat, by omega⟩
    obtain ⟨c, rfl⟩ : ∃ a' : Nat, c = (a' : Int) := ⟨c.toNat, by omega⟩
    obtain ⟨d, rfl⟩ : ∃ a' : Nat, d = (a' : Int) := ⟨d.toNat, by omega⟩
    obtain ⟨s, rfl⟩ : ∃ a' : Nat, s = (a' : Int) := ⟨s.toNat, by omega⟩
    obtain ⟨n, rfl⟩ : ∃ a' : Nat, n = (a' : Int) := ⟨n.toNat, by omega⟩
    exact run a b c d s n hm hk
theorem fill (l : List Int) (s n : Int) (hs : 1 ≤ s ∧ s ≤ 1048576) (hn : 0 ≤ n ∧ n < 4) : ∀ (d i : Nat) (x : List Int), i + d = 4 → x.length = 4 → (∀ y ∈ x, 0 ≤ y ∧ y ≤ 1048575) → ∀ K, 200 + d ≤ K →
    portagelaw12_ExtraCounts.l0 K l (i : Int) ⟨#[]⟩ false x s n 0 ⟨#[]⟩ 0 0 = some true := by
  intro d
  induction d with
  | zero =>
    intro i x hi hx hy K hK
    obtain ⟨q, rfl⟩ : ∃ q, K = q + 1 := ⟨K - 1, by omega⟩
    rw [portagelaw12_ExtraCounts.l0, if_neg (by omega)]
    exact runs x s n hx hy hs hn (by omega)
  | succ d ih =>
    intro i x hi hx hy K hK
    obtain ⟨q, rfl⟩ : ∃ q, K = q + 1 := ⟨K - 1, by omega⟩
    rw [portagelaw12_ExtraCounts.l0, if_pos (by omega)]
    by_cases h : (i : Int) < (l.length : Int)
    · rw [if_pos h, if_pos (by omega), if_pos (by omega), w64 (by omega) (by omega), show (i : Int) + 1 = ((i + 1 : Nat) : Int) from by omega, Bits.and_20]
      refine ih (i + 1) _ (by omega) (by simp [hx]) (fun y hyy => ?_) q (by omega)
      rcases List.mem_or_eq_of_mem_set hyy with h1 | h1
      · exact hy y h1
      · subst h1; omega
    · rw [if_neg h]
      exact runs x s n hx hy hs hn (by omega)
end Counts
open Counts in
theorem ExtraCounts : portagelaw12_ExtraCounts.Pure := by
  intro l a b _ _ _ _ _
  refine ⟨300, ?_⟩
  unfold portagelaw12_ExtraCounts.f
  rw [Counts.awake_true (by omega), Option.bind_some, if_pos rfl, if_pos (by decide)]
  have h0 := and_even a
  have h1 : 1 ≤ wrap64 (1 + Go.bits .and .i64 a 1048574) ∧ wrap64 (1 + Go.bits .and .i64 a 1048574) ≤ 1048576 := by rw [w64 (by omega) (by omega)]; omega
  have h2 : 0 ≤ Go.bits .and .i64 b 3 ∧ Go.bits .and .i64 b 3 < 4 := by rw [Bits.and_2]; omega
  exact fill l _ _ h1 h2 4 0 (List.replicate 4 0) rfl rfl (fun y hy => by simp at hy; omega) 300 (by omega)
end Go.Proofs.Ytnjbbfcknijcnaa.Pure
