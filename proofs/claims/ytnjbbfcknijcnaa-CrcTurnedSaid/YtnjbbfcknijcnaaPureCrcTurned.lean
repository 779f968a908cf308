import Derived.Test.YtnjbbfcknijcnaaCrcJT
import Derived.Test.YtnjbbfcknijcnaaT2
import Derived.Test.YtnjbbfcknijcnaaBits
namespace Go.Proofs.Ytnjbbfcknijcnaa.Pure
set_option linter.unusedVariables false
set_option linter.unusedSimpArgs false
open Go Go.RowKit Go.Proofs.Ytnjbbfcknijcnaa.T Go.Proofs.YtnjbbfcknijcnaaW.PrintWords Go.Proofs.YtnjbbfcknijcnaaW.PrintLast Go.Proofs.YtnjbbfcknijcnaaW.PrintMore Go.Proofs.Ytnjbbfcknijcnaa
namespace CT
open CrcM
theorem byte_zero (e : Nat) : byte e 0 = steps 8 e := by unfold byte; rw [Nat.xor_zero]
theorem byte_more (u e b : Nat) : byte (u ^^^ e) b = byte u b ^^^ steps 8 e := by
  have := byte_xor u e b 0
  rw [Nat.xor_zero, byte_zero] at this
  exact this
theorem fold_more : ∀ (C : List UInt8) (u e : Nat), fold (u ^^^ e) C = fold u C ^^^ steps (8 * C.length) e
  | [], u, e => rfl
  | b :: C, u, e => by
    have ih := fold_more C (byte u b.toNat) (steps 8 e)
    show fold (byte (u ^^^ e) b.toNat) C = fold (byte u b.toNat) C ^^^ steps (8 * (C.length + 1)) e
    rw [byte_more, ih, ← steps_add, show 8 + 8 * C.length = 8 * (C.length + 1) from by omega]
theorem fold_set (c : Nat) (L : List UInt8) (p : Nat) (hp : p < L.length) (d : Nat) (hd : d < 256) : fold c (L.set p (UInt8.ofNat (L[p].toNat ^^^ d))) = fold c L ^^^ steps (8 * (L.length - p)) d := by
  have e1 : L = L.take p ++ L[p] :: L.drop (p + 1) := by
    rw [← List.drop_eq_getElem_cons hp, List.take_append_drop]
  have e2 : L.set p (UInt8.ofNat (L[p].toNat ^^^ d)) = L.take p ++ UInt8.ofNat (L[p].toNat ^^^ d) :: L.drop (p + 1) := by
    rw [List.set_eq_take_append_cons_drop, if_pos hp]
  have hx : (UInt8.ofNat (L[p].toNat ^^^ d)).toNat = L[p].toNat ^^^ d := UInt8.toNat_ofNat_of_lt' (Nat.xor_lt_two_pow (n := 8) (L[p].toNat_lt) hd)
  have hb : byte (fold c (L.take p)) (L[p].toNat ^^^ d) = byte (fold c (L.take p)) L[p].toNat ^^^ steps 8 d := by
    have := byte_xor (fold c (L.take p)) 0 L[p].toNat d
    rw [Nat.xor_zero] at this
    rw [this]
    unfold byte
    rw [Nat.zero_xor]
  have hl : fold c L = fold (byte (fold c (L.take p)) L[p].toNat) (L.drop (p + 1)) := by
    conv => lhs; rw [e1, fold_append]
    rfl
  rw [e2, fold_append, hl]
  show fold (byte (fold c (L.take p)) (UInt8.ofNat (L[p].toNat ^^^ d)).toNat) (L.drop (p + 1)) = _
  rw [hx, hb, fold_more, ← steps_add, List.length_drop, show 8 + 8 * (L.length - (p + 1)) = 8 * (L.length - p) from by omega]
/-- Bytes as whole numbers. -/
def ints (L : List UInt8) : List Int := L.map (fun b => ((b.toNat : Nat) : Int))
theorem ints_str (L : List UInt8) : (strOfNums (ints L)).data.toList = L := by
  rw [strOfNums_data]
  unfold ints
  rw [List.map_map]
  conv => rhs; rw [← List.map_id L]
  refine List.map_congr_left fun b _ => ?_
  show UInt8.ofNat ((b.toNat : Nat) : Int).toNat = b
  rw [Int.toNat_natCast]
  exact UInt8.ofNat_toNat
theorem ints_len (L : List UInt8) : (ints L).length = L.length := by unfold ints; rw [List.length_map]
theorem bytes_ints (s : ByteArray) : bytesOf s = ints s.data.toList := rfl
theorem rd_ints (L : List UInt8) (p : Nat) (hp : p < L.length) : rd (ints L) (p : Int) = ((L[p].toNat : Nat) : Int) := by
  unfold rd ints
  rw [Int.toNat_natCast, List.getD_eq_getElem?_getD, List.getElem?_map, List.getElem?_eq_getElem hp]
  rfl
theorem set_ints (L : List UInt8) (p : Nat) (hp : p < L.length) (d : Nat) (hd : d < 256) : (ints L).set p (Go.bits .xor .u8 (rd (ints L) (p : Int)) (d : Int)) = ints (L.set p (UInt8.ofNat (L[p].toNat ^^^ d))) := by
  rw [rd_ints L p hp, u8_xor_nat _ _ L[p].toNat_lt hd]
  unfold ints
  rw [List.map_set, UInt8.toNat_ofNat_of_lt' (Nat.xor_lt_two_pow (n := 8) (L[p].toNat_lt) hd)]
theorem w64 {n : Int} (h : -9223372036854775808 ≤ n) (h' : n < 9223372036854775808) : wrap64 n = n := by unfold wrap64; omega
/-- What the j-th byte is turned by. -/
def dd (b : Int) (j : Nat) : Nat := (shr .i64 b ((8 * j : Nat) : Int) % 256).toNat
theorem dd_lt (b : Int) (j : Nat) : dd b j < 256 := by unfold dd; omega
theorem dd_eq (b : Int) (j : Nat) : (Go.bits .and .i64 (shr .i64 b ((8 * j : Nat) : Int)) 255) % 256 = ((dd b j : Nat) : Int) := by
  rw [Bits.and_8]; unfold dd; omega
theorem join_next {W d j : Nat} (hW : W < 2 ^ (8 * j)) (hd : d < 256) : (W ^^^ d * 2 ^ (8 * j)) = W + d * 2 ^ (8 * j) := by
  have h := Nat.two_pow_add_eq_or_of_lt hW d
  have hx : W ^^^ d * 2 ^ (8 * j) = W ||| d * 2 ^ (8 * j) := by
    apply Nat.eq_of_testBit_eq
    intro i
    rw [Nat.testBit_xor, Nat.testBit_or, Nat.testBit_mul_two_pow]
    by_cases hi : i < 8 * j
    · simp [show ¬ 8 * j ≤ i from by omega]
    · rw [Nat.testBit_lt_two_pow (Nat.lt_of_lt_of_le hW (Nat.pow_le_pow_right (by decide) (by omega)))]
      simp
  rw [hx, Nat.or_comm, Nat.mul_comm, ← h, Nat.add_comm]
theorem next_lt {W d j : Nat} (hW : W < 2 ^ (8 * j)) (hd : d < 256) : W + d * 2 ^ (8 * j) < 2 ^ (8 * (j + 1)) := by
  rw [show 8 * (j + 1) = 8 * j + 8 from by omega, Nat.pow_add]
  generalize 2 ^ (8 * j) = t at hW ⊢
  have : d * t ≤ 255 * t := Nat.mul_le_mul_right _ (by omega)
  omega
/-- What was turned so far: W, byte by byte. -/
def Inv (s : ByteArray) (i : Nat) (L : List UInt8) (W : Nat) : Prop := fold (compl 0) L = fold (compl 0) s.data.toList ^^^ steps (8 * (s.size - i)) W
theorem inv_next {s : ByteArray} {i j : Nat} {L : List UInt8} {W d : Nat} (h : Inv s i L W) (hL : L.length = s.size) (hp : i + j < L.length) (hd : d < 256) (hW : W < 2 ^ (8 * j)) : Inv s i (L.set (i + j) (UInt8.ofNat (L[i + j].toNat ^^^ d))) (W + d * 2 ^ (8 * j)) := by
  have e8 : 8 * (s.size - i) = 8 * j + 8 * (L.length - (i + j)) := by
    clear h
    omega
  have hsh : steps (8 * (s.size - i)) (d * 2 ^ (8 * j)) = steps (8 * (L.length - (i + j))) d := by
    rw [e8, steps_add, steps_shift]
  unfold Inv at h ⊢
  rw [fold_set (compl 0) L (i + j) hp d hd, h, ← hsh, Nat.xor_assoc, ← steps_xor, join_next hW hd]
theorem compl_xor (a z : Nat) : compl (a ^^^ z) = compl a ^^^ z := by rw [compl_eq, compl_eq, Nat.xor_assoc]
theorem join_of {s : ByteArray} {i : Nat} {L : List UInt8} {W : Nat} (h : Inv s i L W) : joinN 0 (strOfNums (ints L)) = joinN 0 s ^^^ steps (8 * (s.size - i)) W := by
  unfold Inv at h
  unfold joinN
  rw [ints_str, h, compl_xor]
theorem answer (x z W : Nat) (turned : Bool) (hz0 : W = 0 → z = 0) (hz1 : W ≠ 0 → z ≠ 0) (ht : turned = decide (W ≠ 0)) : ((((x ^^^ z : Nat) : Int) != ((x : Nat) : Int)) == turned) = true := by
  by_cases h0 : W = 0
  · rw [hz0 h0, Nat.xor_zero, ht, h0]
    simp
  · have hne : z ≠ 0 := hz1 h0
    have hne2 : x ^^^ z ≠ x := fun e => by
      have := congrArg (fun y => x ^^^ y) e
      simp only [xor_xor, Nat.xor_self] at this
      exact hne this
    have hne3 : ¬ (((x ^^^ z : Nat) : Int) = ((x : Nat) : Int)) := fun e => hne2 (Int.ofNat_inj.mp e)
    rw [ht]
    simp [h0, hne3]
theorem fin (s : ByteArray) (hs : s.size ≤ 140737488351232) (L : List UInt8) (hL : L.length = s.size) (i W : Nat) (turned : Bool) (hf : Inv s i L W) (hW : W < 4294967296) (ht : turned = decide (W ≠ 0)) (K : Nat) (hK : 10 * s.size + 1 ≤ K) :
    (crc_Of.f K (strOfNums (ints L))).bind (fun t116 => some ((t116 != ((joinN 0 s : Nat) : Int)) == turned)) = some true := by
  have hz : (strOfNums (ints L)).size = s.size := by rw [strOfNums_size, ints_len, hL]
  rw [Of_k _ (by omega) (by omega), Option.bind_some, join_of hf]
  congr 1
  exact answer _ _ W turned (fun h => by rw [h, steps_zero]) (fun h => steps_ne _ hW h) ht
theorem turn_next (W d t : Nat) (turned : Bool) (h : turned = decide (W ≠ 0)) (ht : 0 < t) : (turned = true → true = decide (W + d * t ≠ 0)) ∧ (¬ turned = true → (((d : Nat) : Int) != 0) = decide (W + d * t ≠ 0)) := by
  refine ⟨fun h1 => ?_, fun h1 => ?_⟩
  · rw [h1] at h
    have : W ≠ 0 := of_decide_eq_true h.symm
    exact (decide_eq_true (by omega)).symm
  · have h0 : turned = false := by simpa using h1
    rw [h0] at h
    have hW0 : W = 0 := by
      have := of_decide_eq_false h.symm
      omega
    subst hW0
    by_cases hd0 : d = 0
    · rw [hd0]; simp
    · have h2 : d * t ≠ 0 := Nat.mul_ne_zero hd0 (by omega)
      have h3 : ¬ (((d : Nat) : Int) = 0) := by omega
      rw [decide_eq_true (show 0 + d * t ≠ 0 by omega)]
      simp [hd0]
theorem lx (i j n : Nat) (hj : j < 4) (hi : i + j ≤ n) (hn : n ≤ 140737488351232) : wrap64 ((i : Int) + (j : Int)) = ((i + j : Nat) : Int) ∧ wrap64 (8 * (j : Int)) = ((8 * j : Nat) : Int) ∧ wrap64 ((j : Int) + 1) = ((j + 1 : Nat) : Int) := by
  rw [w64 (n := (i : Int) + (j : Int)) (by omega) (by omega), w64 (n := 8 * (j : Int)) (by omega) (by omega), w64 (n := (j : Int) + 1) (by omega) (by omega)]
  refine ⟨?_, ?_, ?_⟩ <;> omega
theorem loop (s : ByteArray) (hs : s.size ≤ 140737488351232) (b : Int) (i : Nat) (hi : i < s.size) : ∀ (d j : Nat) (L : List UInt8) (W : Nat) (turned : Bool), j + d = 4 → L.length = s.size → Inv s i L W → W < 2 ^ (8 * j) → turned = decide (W ≠ 0) → (i + j ≤ s.size) → ∀ K, 10 * s.size + 2 + d ≤ K →
    portagelaw2_CrcTurned.l0 K b ((joinN 0 s : Nat) : Int) (ints L) (i : Int) turned (j : Int) = some true
  | 0, j, L, W, turned, hj, hL, hf, hW, ht, hij, K, hK => by
    obtain ⟨q, rfl⟩ : ∃ q, K = q + 1 := ⟨K - 1, by omega⟩
    obtain rfl : j = 4 := by omega
    rw [portagelaw2_CrcTurned.l0, if_neg (by omega)]
    exact fin s hs L hL i W turned hf hW ht q (by omega)
  | d + 1, j, L, W, turned, hj, hL, hf, hW, ht, hij, K, hK => by
    obtain ⟨q, rfl⟩ : ∃ q, K = q + 1 := ⟨K - 1, by clear hf hW ht; omega⟩
    have hj4 : j < 4 := by clear hf hW ht; omega
    have hq : 10 * s.size + 2 + d ≤ q := by clear hf hW ht; omega
    have hj1 : j + 1 + d = 4 := by clear hf hW ht; omega
    have hj0 : (j : Int) < 4 := Int.ofNat_lt.mpr hj4
    obtain ⟨hw, h8, hn⟩ := lx i j s.size hj4 hij hs
    have hlen : (ints L).length = s.size := (ints_len L).trans hL
    rw [portagelaw2_CrcTurned.l0, if_pos hj0, hw, h8, hn, hlen]
    clear hw h8 hn
    by_cases hb : i + j < s.size
    · have hdl := dd_lt b j
      have hp : i + j < L.length := by rw [hL]; exact hb
      rw [if_pos (Int.ofNat_lt.mpr hb), if_pos (Int.natCast_nonneg _), if_pos (Int.natCast_nonneg _), dd_eq, Int.toNat_natCast, set_ints L (i + j) hp _ hdl, Option.bind_some]
      have hpos : 0 < 2 ^ (8 * j) := Nat.pow_pos (by decide)
      obtain ⟨n1, n2⟩ := turn_next W (dd b j) (2 ^ (8 * j)) turned ht hpos
      have ih := fun t ht' => loop s hs b i hi d (j + 1) (L.set (i + j) (UInt8.ofNat (L[i + j].toNat ^^^ dd b j))) (W + dd b j * 2 ^ (8 * j)) t hj1 (by rw [List.length_set]; exact hL) (inv_next hf hL hp hdl hW) (next_lt hW hdl) ht' hb q hq
      by_cases ht0 : turned = true
      · rw [if_pos ht0]
        exact ih true (n1 ht0)
      · rw [if_neg ht0]
        exact ih _ (n2 ht0)
    · rw [if_neg (fun e => hb (Int.ofNat_lt.mp e))]
      have h32 : W < 4294967296 := by
        have : 2 ^ (8 * j) ≤ 2 ^ 32 := Nat.pow_le_pow_right (by decide) (by clear hf hW ht; omega)
        exact Nat.lt_of_lt_of_le hW this
      exact fin s hs L hL i W turned hf h32 ht q (by clear hf hW ht h32; omega)
theorem mod32 {n : Nat} (h : n < 4294967296) : ((n : Nat) : Int) % 4294967296 = ((n : Nat) : Int) := by omega
theorem le32 {n : Nat} (h : n < 4294967296) : ¬ ((n : Int) > 4294967295) := by omega
theorem parts (s : ByteArray) (k : Nat) (hk : k ≤ s.size) : joinN (joinN 0 (s.extract 0 k)) (s.extract k s.size) = joinN 0 s := by
  unfold joinN
  have e : s.data.toList = (s.extract 0 k).data.toList ++ (s.extract k s.size).data.toList := by
    have hz : s.data.toList.length = s.size := rfl
    rw [ByteArray.data_extract, ByteArray.data_extract, Array.toList_extract, Array.toList_extract, List.extract_eq_take_drop, List.extract_eq_take_drop, List.drop_zero, Nat.sub_zero, List.take_of_length_le (l := s.data.toList.drop k) (by rw [List.length_drop, hz]; omega), List.take_append_drop]
  rw [compl_compl, e, fold_append]
end CT
open CT in
theorem CrcTurned : portagelaw2_CrcTurned.Pure := by
  intro s a b c hs ha _ hc
  have hz : s.data.toList.length = s.size := rfl
  refine ⟨10 * s.size + 200, ?_⟩
  have hw1 : wrap64 ((s.size : Int) + 1) = ((s.size + 1 : Nat) : Int) := by rw [CT.w64 (by omega) (by omega)]; omega
  have hu : ∀ n : Nat, n < 140737488399999 → IntKind.u64.wrap ((n : Nat) : Int) = ((n : Nat) : Int) := fun n hn => by
    show ((n : Nat) : Int) % 18446744073709551616 = _
    omega
  have hu0 : ∀ z : Int, 0 ≤ IntKind.u64.wrap z := fun z => by
    show 0 ≤ z % 18446744073709551616
    omega
  have hmod : ∀ (z : Int) (n : Nat), 0 < n → n < 140737488399999 → ∃ k : Nat, wrap64 (Int.tmod (IntKind.u64.wrap z) ((n : Nat) : Int)) = (k : Int) ∧ k < n := fun z n hn hn2 => by
    have h0 := hu0 z
    generalize IntKind.u64.wrap z = y at h0
    have h1 := Int.emod_lt_of_pos y (show (0 : Int) < (n : Int) by omega)
    have h2 := Int.emod_nonneg y (show (n : Int) ≠ 0 by omega)
    refine ⟨(y % (n : Int)).toNat, ?_, by omega⟩
    rw [Int.tmod_eq_emod_of_nonneg h0, CT.w64 (by omega) (by omega)]
    omega
  obtain ⟨k, hk, hkl⟩ := hmod c (s.size + 1) (by omega) (by omega)
  have he : ∀ x y : Nat, (s.extract x y).size ≤ s.size := fun x y => by rw [ByteArray.size_extract]; omega
  unfold portagelaw2_CrcTurned.f
  rw [awake_true (by omega), Option.bind_some, if_pos rfl, hw1, hu (s.size + 1) (by omega), if_neg (by omega), Of_k s (by omega) (by omega), Option.bind_some, hk, if_pos (by omega), if_pos (by omega), Int.toNat_natCast,
    Of_k _ (by have := he 0 k; omega) (by have := he 0 k; omega), Option.bind_some, Join_k _ _ _ (joinN_lt 0 (s.extract 0 k) (by omega)) (mod32 (joinN_lt 0 (s.extract 0 k) (by omega))) (by have := he k s.size; omega) (by have := he k s.size; omega), Option.bind_some, parts s k (by omega), if_pos rfl, if_neg (Int.not_lt.mpr (Int.natCast_nonneg _)), decide_eq_false (p := ((joinN 0 s : Nat) : Int) > 4294967295) (le32 (joinN_lt 0 s (by omega)))]
  obtain ⟨q, hq⟩ : ∃ q, 10 * s.size + 200 = q + 1 := ⟨10 * s.size + 199, by omega⟩
  rw [hq, portagelaw2_CrcTurned.j0, if_neg (by decide)]
  by_cases h1 : (s.size : Int) < 1
  · rw [if_pos h1]
  · obtain ⟨i, hi, hil⟩ := hmod a s.size (by omega) (by omega)
    rw [if_neg h1, if_pos (by omega), hu s.size (by omega), if_neg (by omega), hi, bytes_ints]
    exact loop s hs b i hil 4 0 s.data.toList 0 false rfl hz (by unfold CT.Inv; rw [CrcM.steps_zero, Nat.xor_zero]) (by decide) rfl (by omega) q (by omega)
end Go.Proofs.Ytnjbbfcknijcnaa.Pure
