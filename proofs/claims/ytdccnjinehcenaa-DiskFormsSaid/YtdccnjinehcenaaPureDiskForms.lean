/- The plain law of portagelaw17.DiskForms: disks, writes, steps, torn bytes that are none. -/
import Derived.Test.YtdccnjinehcenaaDiskLD
import Derived.Test.YtdccnjinehcenaaDiskAD
import Derived.Test.YtdccnjinehcenaaD7
import Derived.Test.YtdccnjinehcenaaBits
namespace Go.Proofs.Ytdccnjinehcenaa.Pure
set_option linter.unusedVariables false
set_option linter.unusedSimpArgs false
open Go.RowKit Go.Proofs.Ytdccnjinehcenaa.D Go.Proofs.YtdccnjinehcenaaW.PrintWords Go.Proofs.YtdccnjinehcenaaW.PrintLast Go.Proofs.YtdccnjinehcenaaW.PrintMore
def nd : List ByteArray := List.replicate 130 (blk 0)
def bads : List (List ByteArray) := [[], [] ++ nd.drop 1, ([] ++ nd).set 7 (⟨#[120]⟩ : ByteArray), ([] ++ nd) ++ [rdOf ByteArray.empty nd 0]]
theorem bads_bad : ∀ k : Fin 4, mayB (bads.getD k.val []) = false ∧ (bads.getD k.val []).length ≤ 131 := by decide +kernel
theorem num_mod (a : Int) (n : Nat) (h0 : 0 < n) (hn : n ≤ 1000000) : ∃ k : Nat, k < n ∧ wrap64 (Int.tmod (IntKind.u64.wrap a) (n : Int)) = (k : Int) := by
  have hu : IntKind.u64.wrap a = a % 18446744073709551616 := rfl
  rw [hu, Int.tmod_eq_emod_of_nonneg (by omega)]
  have h1 := Int.emod_nonneg (a % 18446744073709551616) (show (n : Int) ≠ 0 by omega)
  have h2 := Int.emod_lt_of_pos (a % 18446744073709551616) (show (0 : Int) < (n : Int) by omega)
  refine ⟨(a % 18446744073709551616 % (n : Int)).toNat, by omega, ?_⟩
  unfold wrap64
  omega
theorem hws (d : Nat) (h : d ≤ 1024) : wrap64 (-((d : Int))) = -(d : Int) ∧ wrap64 (129 + (d : Int)) = 129 + (d : Int) ∧ wrap64 (1 + (d : Int)) = 1 + (d : Int) ∧ wrap64 (64 + (d : Int)) = 64 + (d : Int) := by
  unfold wrap64
  omega
theorem DiskForms : portagelaw17_DiskForms.Pure := by
  intro a0 a1 h0 h1
  refine ⟨400, ?_⟩
  have ln : nd.length = 130 := List.length_replicate
  have l5 : [(⟨5, blk 113⟩ : S42)].length ≤ 9000000000000000000 := by rw [List.length_singleton]; omega
  have l6 : [(⟨5, blk 113⟩ : S42)].length = 1 := rfl
  have fn : fine nd := fine_new
  unfold portagelaw17_DiskForms.f
  rw [awake_eq 400 (by omega), Option.bind_some, if_pos rfl, new_eq, Option.bind_some]
  change (if ((nd.length : Int)) = 130 then _ else _) = _
  rw [if_pos (by omega), full_eq 113 _ (by omega), Option.bind_some, Option.bind_some, Option.bind_some]
  change (if 1 ≤ ((nd.length : Int)) then _ else _) = _
  rw [if_pos (by omega), Option.bind_some, if_pos (by rw [List.length_drop, List.length_replicate, List.length_nil]; decide), Option.bind_some]
  rw [if_pos (by rw [List.length_replicate, List.length_nil]; decide), Option.bind_some, if_pos (by rw [List.length_append, List.length_replicate, List.length_nil]; decide), Option.bind_some]
  rw [if_pos (by rw [List.length_replicate, List.length_nil]; decide), Option.bind_some, if_pos (by rw [List.length_replicate]; decide), if_pos (by rw [List.length_append, List.length_replicate, List.length_nil]; decide), Option.bind_some]
  obtain ⟨k4, hk4, e4⟩ := num_mod a0 4 (by decide) (by decide)
  obtain ⟨k3, hk3, e3⟩ := num_mod a0 3 (by decide) (by decide)
  replace e4 : wrap64 (Int.tmod (IntKind.u64.wrap a0) 4) = (k4 : Int) := e4
  replace e3 : wrap64 (Int.tmod (IntKind.u64.wrap a0) 3) = (k3 : Int) := e3
  have hd : ∃ d : Nat, 1 ≤ d ∧ d ≤ 1024 ∧ wrap64 (1 + Go.bits .and .i64 a1 1023) = (d : Int) := by
    rw [Bits.and_10]
    refine ⟨(1 + a1 % 1024).toNat, by omega, by omega, ?_⟩
    unfold wrap64
    omega
  obtain ⟨d, hd1, hd2, ed⟩ := hd
  obtain ⟨hw1, hw2, hw3, hw4⟩ := hws d hd2
  rw [e4, e3, ed, hw1, hw2, hw3, hw4]
  clear hw1 hw2 hw3 hw4 e3 e4 ed h0 h1
  obtain ⟨b1, b2⟩ := bads_bad ⟨k4, hk4⟩
  replace b1 : mayB (rd_L2 bads (k4 : Int)) = false := by unfold rd_L2; rw [Int.toNat_natCast]; exact b1
  replace b2 : (rd_L2 bads (k4 : Int)).length ≤ 131 := by unfold rd_L2; rw [Int.toNat_natCast]; exact b2
  change (if (0 : Int) ≤ (k4 : Int) then (if (k4 : Int) < ((bads.length : Int)) then ((disk_Run.f 400 (rd_L2 bads (k4 : Int)) [(⟨5, blk 113⟩ : S42)] 0 0).bind fun bt240 => _) else _) else _) = _
  rw [if_pos (by omega), if_pos (by show (k4 : Int) < ((4 : Nat) : Int); omega), run_bad _ [(⟨5, blk 113⟩ : S42)] 0 0 l5 (by omega) (.inl b1) 400 (by omega), Option.bind_some, Option.bind_some, Option.bind_some, Option.bind_some]
  have hq : ∃ q, rd_L5 [[(⟨-(d : Int), blk 113⟩ : S42)], [(⟨129 + (d : Int), blk 113⟩ : S42)], [(⟨0, (⟨#[120]⟩ : ByteArray)⟩ : S42)]] (k3 : Int) = q ∧ q.any badw = true ∧ q.length = 1 := by
    refine ⟨_, rfl, ?_⟩
    unfold rd_L5
    rw [Int.toNat_natCast]
    match k3, hk3 with
    | 0, _ =>
      refine ⟨?_, rfl⟩
      show (badw ⟨-(d : Int), blk 113⟩ || false) = true
      unfold badw
      rw [decide_eq_true (show (-(d : Int)) < 0 by omega)]
      rfl
    | 1, _ =>
      refine ⟨?_, rfl⟩
      show (badw ⟨129 + (d : Int), blk 113⟩ || false) = true
      unfold badw
      rw [decide_eq_true (show (129 + (d : Int)) ≥ 130 by omega), Bool.true_or, Bool.or_true]
      rfl
    | 2, _ =>
      refine ⟨?_, rfl⟩
      show (badw ⟨0, (⟨#[120]⟩ : ByteArray)⟩ || false) = true
      decide +kernel
  obtain ⟨q, eq, q1, q2⟩ := hq
  have g5 : [(⟨5, blk 113⟩ : S42)].any badw = false := by decide +kernel
  have ld : nd.length ≤ 9000000000000000000 := by omega
  change (if (0 : Int) ≤ (k3 : Int) then (if (k3 : Int) < ((3 : Nat) : Int) then ((disk_Run.f 400 nd (rd_L5 [[(⟨-(d : Int), blk 113⟩ : S42)], [(⟨129 + (d : Int), blk 113⟩ : S42)], [(⟨0, (⟨#[120]⟩ : ByteArray)⟩ : S42)]] (k3 : Int)) 0 0).bind fun bt259 => ((disk_Run.f 400 nd [(⟨5, blk 113⟩ : S42)] (-(d : Int)) 0).bind fun bt263 => ((disk_Run.f 400 nd [(⟨5, blk 113⟩ : S42)] (1 + (d : Int)) 0).bind fun bt267 => ((disk_Run.f 400 nd [(⟨5, blk 113⟩ : S42)] 0 (-(d : Int))).bind fun bt271 => ((disk_Run.f 400 nd [(⟨5, blk 113⟩ : S42)] 0 (64 + (d : Int))).bind fun bt275 => ((disk_Run.f 400 nd [(⟨5, blk 113⟩ : S42)] 1 1).bind fun bt279 => ((disk_May.f 400 (rd_L2 bads (k4 : Int))).bind fun t283 => (if t283 = true then (none) else ((disk_May.f 400 nd).bind fun t284 => _)))))))))  else _) else _) = _
  rw [if_pos (by omega), if_pos (by omega), eq, run_bad nd q 0 0 (by omega) ld (.inr (.inl q1)) 400 (by omega), Option.bind_some,
    run_bad nd [(⟨5, blk 113⟩ : S42)] (-(d : Int)) 0 l5 ld (.inr (.inr (.inl (by omega)))) 400 (by omega), Option.bind_some,
    run_bad nd [(⟨5, blk 113⟩ : S42)] (1 + (d : Int)) 0 l5 ld (.inr (.inr (.inr (.inl (by show 1 + (d : Int) > ((1 : Nat) : Int); omega))))) 400 (by omega), Option.bind_some,
    run_bad nd [(⟨5, blk 113⟩ : S42)] 0 (-(d : Int)) l5 ld (.inr (.inr (.inr (.inr (.inl (by omega)))))) 400 (by omega), Option.bind_some,
    run_bad nd [(⟨5, blk 113⟩ : S42)] 0 (64 + (d : Int)) l5 ld (.inr (.inr (.inr (.inr (.inr (.inl (by omega))))))) 400 (by omega), Option.bind_some,
    run_bad nd [(⟨5, blk 113⟩ : S42)] 1 1 l5 ld (.inr (.inr (.inr (.inr (.inr (.inr ⟨by decide, rfl⟩)))))) 400 (by omega), Option.bind_some,
    may_eq _ (by omega) 400 (by omega), Option.bind_some, b1, if_neg (by decide), may_eq nd ld 400 (by omega), Option.bind_some, mayB_true.mpr fn]
  decide +kernel
end Go.Proofs.Ytdccnjinehcenaa.Pure
