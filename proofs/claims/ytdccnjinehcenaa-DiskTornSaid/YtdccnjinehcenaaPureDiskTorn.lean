/- The plain law of portagelaw17.DiskTorn: torn behind all bytes is written, torn behind none is not. -/
import Derived.Test.YtdccnjinehcenaaDiskLD
import Derived.Test.YtdccnjinehcenaaDiskAD
import Derived.Test.YtdccnjinehcenaaDiskWD
import Derived.Test.YtdccnjinehcenaaD9
import Derived.Test.YtdccnjinehcenaaD8
namespace Go.Proofs.Ytdccnjinehcenaa.Pure
set_option linter.unusedVariables false
set_option linter.unusedSimpArgs false
open Go.RowKit Go.Proofs.Ytdccnjinehcenaa.D Go.Proofs.YtdccnjinehcenaaW.PrintWords Go.Proofs.YtdccnjinehcenaaW.PrintLast Go.Proofs.YtdccnjinehcenaaW.PrintMore
theorem same_l0 (l : List ByteArray) (hl : l.length ≤ 9000000000000000000) : ∀ (d i : Nat), i + d = l.length → ∀ K, d + 1 ≤ K → portagelaw0_SameTexts.l0 K l l (i : Int) = some true
  | 0, i, hi, K, hK => by
    obtain ⟨m, rfl⟩ : ∃ m, K = m + 1 := ⟨K - 1, by omega⟩
    rw [portagelaw0_SameTexts.l0, if_neg (by omega)]
  | d + 1, i, hi, K, hK => by
    obtain ⟨m, rfl⟩ : ∃ m, K = m + 1 := ⟨K - 1, by omega⟩
    have hw : wrap64 ((i : Int) + 1) = ((i + 1 : Nat) : Int) := by unfold wrap64; omega
    rw [portagelaw0_SameTexts.l0, if_pos (by omega), if_pos (by omega), if_pos (by omega), if_pos rfl, hw, same_l0 l hl d (i + 1) (by omega) m (by omega)]
theorem same_eq (l : List ByteArray) (hl : l.length ≤ 9000000000000000000) (K : Nat) (hK : l.length + 1 ≤ K) : portagelaw0_SameTexts.f K l l = some true := by
  unfold portagelaw0_SameTexts.f
  rw [if_pos rfl]
  exact same_l0 l hl l.length 0 (by omega) K hK
theorem l0_eq (l : List Int) (a1 : Int) (n : Nat) (hn : n = min l.length 30) : ∀ (q i : Nat), i + q = n → ∀ K, q + 100 ≤ K →
    portagelaw17_DiskTorn.l0 K l a1 (wr l i) (i : Int) = portagelaw17_DiskTorn.j1 (K - q - 1) a1 (wr l n)
  | 0, i, hi, K, hK => by
    obtain ⟨m, rfl⟩ : ∃ m, K = m + 1 := ⟨K - 1, by omega⟩
    rw [portagelaw17_DiskTorn.l0, show i = n from by omega, Nat.sub_zero, Nat.add_sub_cancel]
    by_cases h : (n : Int) < (l.length : Int)
    · rw [if_pos h, if_neg (by omega)]
    · rw [if_neg h]
  | q + 1, i, hi, K, hK => by
    obtain ⟨m, rfl⟩ : ∃ m, K = m + 1 := ⟨K - 1, by omega⟩
    have hw := w1 i (by omega)
    rw [portagelaw17_DiskTorn.l0, if_pos (by omega), if_pos (by omega), if_pos (by omega), hw.2, full_eq _ _ (by omega), Option.bind_some, if_pos (by rw [wr_length]; omega), hw.1]
    have := l0_eq l a1 n hn q (i + 1) (by omega) m (by omega)
    rw [wr_succ] at this
    show portagelaw17_DiskTorn.l0 m l a1 (wr l i ++ [⟨atOf l i, blk ((i + 1 : Nat) : Int)⟩]) _ = _
    rw [this]
    congr 1
    omega
theorem j1_eq (ws : List S42) (a1 : Int) (n k : Nat) (hn : ws.length = n) (hf : ws.any badw = false) (hk : k < n) (hn30 : n ≤ 30) (K : Nat) (hK : 500 ≤ K) (ek : wrap64 (Int.tmod (IntKind.u64.wrap a1) (IntKind.u64.wrap (n : Int))) = (k : Int)) (en : IntKind.u64.wrap (n : Int) = (n : Int)) :
    portagelaw17_DiskTorn.j1 K a1 ws = some true := by
  obtain ⟨m, rfl⟩ : ∃ m, K = m + 1 := ⟨K - 1, by omega⟩
  have hw2 : wrap64 ((k : Int) + 1) = ((k + 1 : Nat) : Int) := by clear ek en hf; unfold wrap64; omega
  have hw3 : wrap64 ((n : Int) - (k : Int)) = ((n - k : Nat) : Int) := by clear ek en hf hw2; unfold wrap64; omega
  have en0 : ¬ IntKind.u64.wrap (n : Int) = 0 := by rw [en]; omega
  rw [portagelaw17_DiskTorn.j1, hn, if_neg (by omega), if_neg en0, new_eq, Option.bind_some, ek, hw2, hw3]
  clear ek en hw2 hw3 en0
  have ha := ran_none (List.replicate 130 (blk 0)) ws k
  have hlk : (ws.take k).length = k := by rw [List.length_take]; omega
  have hb := ran_none (List.replicate 130 (blk 0)) (ws.take k) k
  rw [List.take_of_length_le (l := ws.take k) (i := k) (by omega)] at hb
  have hx := ran_all (List.replicate 130 (blk 0)) ws k (by omega) fine_new hf
  have hlk1 : (ws.take (k + 1)).length = k + 1 := by rw [List.length_take]; omega
  have hy := ran_none (List.replicate 130 (blk 0)) (ws.take (k + 1)) (k + 1)
  rw [List.take_of_length_le (l := ws.take (k + 1)) (i := k + 1) (by omega)] at hy
  have hld : (ws.drop k).length = n - k := by rw [List.length_drop, hn]
  have hz := ran_none (puts (List.replicate 130 (blk 0)) (ws.take k)) (ws.drop k) (n - k)
  rw [List.take_of_length_le (l := ws.drop k) (i := n - k) (by omega), ← puts_append, List.take_append_drop] at hz
  have hall := ran_none (List.replicate 130 (blk 0)) ws n
  rw [List.take_of_length_le (l := ws) (i := n) (by omega)] at hall
  have fb : fine (puts (List.replicate 130 (blk 0)) (ws.take k)) := fine_puts _ _ fine_new (any_take hf k)
  have r1 := run_ok (List.replicate 130 (blk 0)) ws k 0 fine_new hf (by omega) (by omega) (by omega) (.inl rfl) m (by omega)
  have r2 := run_ok (List.replicate 130 (blk 0)) (ws.take k) k 0 fine_new (any_take hf k) (by omega) (by omega) (by omega) (.inl rfl) m (by omega)
  have r3 := run_ok (List.replicate 130 (blk 0)) ws k 64 fine_new hf (by omega) (by omega) (by omega) (.inr (by omega)) m (by omega)
  have r4 := run_ok (List.replicate 130 (blk 0)) (ws.take (k + 1)) (k + 1) 0 fine_new (any_take hf (k + 1)) (by omega) (by omega) (by omega) (.inl rfl) m (by omega)
  have r5 := run_ok (puts (List.replicate 130 (blk 0)) (ws.take k)) (ws.drop k) (n - k) 0 fb (any_drop hf k) (by omega) (by omega) (by omega) (.inl rfl) m (by omega)
  have r6 := run_ok (List.replicate 130 (blk 0)) ws n 0 fine_new hf (by omega) (by omega) (by omega) (.inl rfl) m (by omega)
  rw [ha] at r1
  rw [hb] at r2
  rw [hx] at r3
  rw [hy] at r4
  rw [hz] at r5
  rw [hall] at r6
  clear ha hb hx hy hz hall
  change (disk_Run.f m (List.replicate 130 (blk 0)) ws (k : Int) ((0 : Nat) : Int)).bind _ = _
  rw [r1, Option.bind_some, if_pos (by omega), if_pos (by omega), Int.toNat_natCast]
  change (disk_Run.f m (List.replicate 130 (blk 0)) (ws.take k) (k : Int) ((0 : Nat) : Int)).bind _ = _
  rw [r2, Option.bind_some]
  change (disk_Run.f m (List.replicate 130 (blk 0)) ws (k : Int) ((64 : Nat) : Int)).bind _ = _
  rw [r3, Option.bind_some, if_pos (by omega), if_pos (by omega), Int.toNat_natCast]
  change (disk_Run.f m (List.replicate 130 (blk 0)) (ws.take (k + 1)) ((k + 1 : Nat) : Int) ((0 : Nat) : Int)).bind _ = _
  rw [r4, Option.bind_some]
  change (disk_Run.f m (puts (List.replicate 130 (blk 0)) (ws.take k)) (ws.drop k) ((n - k : Nat) : Int) ((0 : Nat) : Int)).bind _ = _
  rw [r5, Option.bind_some]
  change (disk_Run.f m (List.replicate 130 (blk 0)) ws (n : Int) ((0 : Nat) : Int)).bind _ = _
  rw [r6, Option.bind_some]
  unfold portagelaw0_Num.f
  rw [Option.bind_some, if_pos rfl, Option.bind_some, if_pos rfl, Option.bind_some, if_pos rfl, Option.bind_some, if_pos rfl, Option.bind_some, if_pos rfl, Option.bind_some, if_pos rfl]
  have hp : ∀ vs : List S42, (puts (List.replicate 130 (blk 0)) vs).length = 130 := fun vs => by rw [puts_length, List.length_replicate]
  have s := fun vs : List S42 => same_eq (puts (List.replicate 130 (blk 0)) vs) (by rw [hp]; omega) m (by rw [hp]; omega)
  dsimp only
  rw [s, Option.bind_some, if_pos rfl, s, Option.bind_some, if_pos rfl, s]
  rfl
theorem DiskTorn : portagelaw17_DiskTorn.Pure := by
  intro l a1 _ _ _ _
  refine ⟨1000, ?_⟩
  unfold portagelaw17_DiskTorn.f
  rw [awake_eq 1000 (by omega), Option.bind_some, if_pos rfl]
  obtain ⟨n, hn⟩ : ∃ n, n = min l.length 30 := ⟨_, rfl⟩
  have h0 := l0_eq l a1 n hn n 0 (by omega) 1000 (by omega)
  rw [show wr l 0 = [] from rfl, show ((0 : Nat) : Int) = 0 from rfl] at h0
  rw [h0]
  have hn30 : n ≤ 30 := by omega
  clear h0 hn
  by_cases h : n = 0
  · subst h
    rw [portagelaw17_DiskTorn.j1, wr_length, if_pos (by decide)]
  · have en : IntKind.u64.wrap (n : Int) = (n : Int) := by
      show ((n : Int)) % 18446744073709551616 = _
      omega
    obtain ⟨k, hk, ek⟩ := tmod_nat a1 n (by omega) (by omega)
    exact j1_eq (wr l n) a1 n k (wr_length l n) (wr_fine l n) hk hn30 _ (by omega) (by rw [en]; exact ek) en
end Go.Proofs.Ytdccnjinehcenaa.Pure
