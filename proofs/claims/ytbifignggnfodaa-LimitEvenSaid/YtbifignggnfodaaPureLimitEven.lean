import Derived.Test.YtbifignggnfodaaLimLLM
import Derived.Test.YtbifignggnfodaaLimALM
import Derived.Test.YtbifignggnfodaaLM8
import Derived.Test.YtbifignggnfodaaBits
namespace Go.Proofs.Ytbifignggnfodaa.Pure
set_option linter.unusedVariables false
set_option linter.unusedSimpArgs false
open Go.RowKit Go.Proofs.Ytbifignggnfodaa.LM Go.Proofs.YtbifignggnfodaaW.PrintWords Go.Proofs.YtbifignggnfodaaW.PrintLast Go.Proofs.YtbifignggnfodaaW.PrintMore
namespace LEv
theorem u64_tmod (x : Int) (m : Nat) (hm : 0 < m) : ∃ i : Nat, i < m ∧ Int.tmod (IntKind.u64.wrap x) (m : Int) = (i : Int) := by
  have h : 0 ≤ IntKind.u64.wrap x := by
    rw [IntKind.wrap_u64]
    omega
  obtain ⟨n, hn⟩ : ∃ n : Nat, IntKind.u64.wrap x = (n : Int) := ⟨(IntKind.u64.wrap x).toNat, by omega⟩
  exact ⟨n % m, Nat.mod_lt _ hm, by rw [hn]; rfl⟩
/-- So many codes, none too long, fill all room: then each is as long as may be. -/
theorem room_ge (k : Nat) (hk : k ≤ 15) : ∀ (xs : List Int), (∀ x ∈ xs, 0 < x ∧ x ≤ (k : Int)) → xs.length * 2 ^ (15 - k) ≤ HeapM.room xs ∧ (HeapM.room xs = xs.length * 2 ^ (15 - k) → ∀ x ∈ xs, x = (k : Int))
  | [], _ => ⟨by simp, fun _ x hx => by cases hx⟩
  | x :: xs, h => by
    obtain ⟨h1, h2⟩ := room_ge k hk xs fun y hy => h y (List.mem_cons_of_mem _ hy)
    obtain ⟨h3, h4⟩ := h x (List.mem_cons_self ..)
    have e : HeapM.room (x :: xs) = 2 ^ (15 - x.toNat) + HeapM.room xs := by rw [HeapM.room, if_pos h3]
    have hp : 2 ^ (15 - k) ≤ 2 ^ (15 - x.toNat) := Nat.pow_le_pow_right (by decide) (by omega)
    rw [e, List.length_cons, Nat.add_mul, Nat.one_mul]
    refine ⟨by omega, fun he y hy => ?_⟩
    rcases List.mem_cons.1 hy with hyx | hyx
    · subst hyx
      have hq : 2 ^ (15 - y.toNat) = 2 ^ (15 - k) := by omega
      have h5 := (Nat.pow_le_pow_iff_right (by decide : 1 < 2)).1 (Nat.le_of_eq hq)
      omega
    · exact h2 (by omega) y hyx
theorem fill (m x1 : Int) (c : Int) (hc : wrap64 (1 + (Go.bits .and .i64 x1 65535)) = c) (n : Nat) (hn : n ≤ 256) (r : Option Bool) (hr : ∀ k, 600 ≤ k → ((limit_Lengths.f (List.replicate n c) m).bind fun bt234 => ((portagelaw0_Num.f bt234.2).bind fun t238 => (if t238 = 0 then (portagelaw4_LimitEven.j1 k m bt234.1 ((bt234.1.length : Int) != ((List.replicate n c).length : Int))) else (portagelaw4_LimitEven.j1 k m bt234.1 true)))) = r) : ∀ (d i K : Nat), i + d = n → d + 601 ≤ K → portagelaw4_LimitEven.l0 K x1 m (List.replicate i c ++ List.replicate d 0) (i : Int) = r
  | 0, i, K, hi, hK => by
    obtain ⟨k, rfl⟩ : ∃ k, K = k + 1 := ⟨K - 1, by omega⟩
    have e : List.replicate i c ++ List.replicate 0 0 = List.replicate n c := by rw [List.replicate_zero, List.append_nil]; congr 1
    rw [e, portagelaw4_LimitEven.l0, if_neg (by rw [List.length_replicate]; omega)]
    exact hr k (by omega)
  | d + 1, i, K, hi, hK => by
    obtain ⟨k, rfl⟩ : ∃ k, K = k + 1 := ⟨K - 1, by omega⟩
    have hw : wrap64 ((i : Int) + 1) = ((i + 1 : Nat) : Int) := by unfold wrap64; omega
    have e : (List.replicate i c ++ List.replicate (d + 1) 0).set i c = List.replicate (i + 1) c ++ List.replicate d 0 := by
      rw [List.set_append_right _ _ (by simp), List.length_replicate, Nat.sub_self, List.replicate_succ (n := d), List.set_cons_zero]
      rw [List.replicate_succ' (n := i), List.append_assoc]
      rfl
    rw [portagelaw4_LimitEven.l0, if_pos (by simp; omega), if_pos (by omega), hc, Int.toNat_natCast, e, hw]
    exact fill m x1 c hc n hn r hr d (i + 1) k (by omega) (by omega)
theorem same (m : Int) (ls : List Int) (hl : ls.length ≤ 256) (h : ∀ x ∈ ls, x = m) : ∀ (d i K : Nat), i + d = ls.length → d + 1 ≤ K → portagelaw4_LimitEven.l1 K m ls (i : Int) = some true
  | 0, i, K, hi, hK => by
    obtain ⟨k, rfl⟩ : ∃ k, K = k + 1 := ⟨K - 1, by omega⟩
    rw [portagelaw4_LimitEven.l1, if_neg (by omega)]
  | d + 1, i, K, hi, hK => by
    obtain ⟨k, rfl⟩ : ∃ k, K = k + 1 := ⟨K - 1, by omega⟩
    have hw : wrap64 ((i : Int) + 1) = ((i + 1 : Nat) : Int) := by unfold wrap64; omega
    rw [portagelaw4_LimitEven.l1, if_pos (by omega), if_pos (by omega), if_pos (h _ (HeapA.rd_in ls i (by omega))), hw]
    exact same m ls hl h d (i + 1) k (by omega) (by omega)
theorem used_rep (n : Nat) (c : Int) (hc : 0 < c) : HeapM.used (List.replicate n c) = n := by
  rw [HeapM.used_all _ fun x hx => by rw [List.eq_of_mem_replicate hx]; exact hc, List.length_replicate]
end LEv
open LEv in
theorem LimitEven : portagelaw4_LimitEven.Pure := by
  intro a0 a1 _ _
  refine ⟨2000, ?_⟩
  obtain ⟨i, hi, e⟩ := u64_tmod a0 8 (by decide)
  have e : Int.tmod (IntKind.u64.wrap a0) 8 = (i : Int) := e
  have ei : wrap64 (i : Int) = (i : Int) := by unfold wrap64; omega
  have e1 : wrap64 (1 + (i : Int)) = ((i + 1 : Nat) : Int) := by unfold wrap64; omega
  have e2 : ∀ j : Nat, j < 8 → shl .i64 1 ((j + 1 : Nat) : Int) = ((2 ^ (j + 1) : Nat) : Int) ∧ 2 ^ (j + 1) ≤ 256 := by decide +kernel
  obtain ⟨e3, e4⟩ := e2 i hi
  have hd := Bits.and_16 a1
  obtain ⟨c, hc⟩ : ∃ c, wrap64 (1 + (Go.bits .and .i64 a1 65535)) = c := ⟨_, rfl⟩
  have hcb : 1 ≤ c ∧ c ≤ 65536 := by
    rw [← hc, hd]
    have : 0 ≤ a1 % 65536 := Int.emod_nonneg _ (by decide)
    have : a1 % 65536 < 65536 := Int.emod_lt_of_pos _ (by decide)
    unfold wrap64
    omega
  unfold portagelaw4_LimitEven.f
  rw [limAwake (by decide), Option.bind_some, if_pos rfl, e, ei, e1, e3, if_pos (by omega), if_pos (Int.natCast_nonneg _), Int.toNat_natCast, if_pos (Nat.le_trans e4 (by decide))]
  obtain ⟨n, hn⟩ : ∃ n, 2 ^ (i + 1) = n := ⟨_, rfl⟩
  have hn2 : 2 ≤ n := by rw [← hn]; exact Nat.le_trans (by decide : 2 ≤ 2 ^ 1) (Nat.pow_le_pow_right (by decide) (by omega))
  rw [hn] at e4 ⊢
  have hF := fill ((i + 1 : Nat) : Int) a1 c hc n e4 (some true) (fun k hk => by
    have hu := used_rep n c (by omega)
    have hM : limitMay (List.replicate n c) ((i + 1 : Nat) : Int) = true := lim_may (by rw [List.length_replicate]; exact hn2) (by rw [List.length_replicate]; omega) (fun x hx => by rw [List.eq_of_mem_replicate hx]; omega) (by omega) (by omega) (by rw [hu, Int.toNat_natCast, hn]; exact Nat.le_refl _)
    have G := lim_good hM
    rw [lim_yes _ _ hM, Option.bind_some]
    show (if (0 : Int) = 0 then (portagelaw4_LimitEven.j1 k ((i + 1 : Nat) : Int) (HeapM.lengths (List.replicate n c) ((i + 1 : Nat) : Int)) (((HeapM.lengths (List.replicate n c) ((i + 1 : Nat) : Int)).length : Int) != ((List.replicate n c).length : Int))) else (portagelaw4_LimitEven.j1 k ((i + 1 : Nat) : Int) (HeapM.lengths (List.replicate n c) ((i + 1 : Nat) : Int)) true)) = some true
    have hlen := G.len
    rw [if_pos rfl, hlen, bne_self_eq_false]
    rw [List.length_replicate] at hlen
    obtain ⟨k2, rfl⟩ : ∃ k2, k = k2 + 1 := ⟨k - 1, by omega⟩
    have hall : ∀ x ∈ HeapM.lengths (List.replicate n c) ((i + 1 : Nat) : Int), 0 < x ∧ x ≤ ((i + 1 : Nat) : Int) := fun x hx => by
      obtain ⟨q, hq, he⟩ := List.getElem_of_mem hx
      have h1 : (HeapM.lengths (List.replicate n c) ((i + 1 : Nat) : Int)).getD q 0 = x := by rw [List.getD_eq_getElem?_getD, List.getElem?_eq_getElem hq, he]; rfl
      have h2 := G.hi q
      have h3 := G.pos q (by rw [List.getD_eq_getElem?_getD, List.getElem?_replicate, if_pos (by omega)]; show 0 < c; omega)
      omega
    have hroom := (G.full (by rw [hu]; omega)).2
    have hR := (room_ge (i + 1) (by omega) _ hall).2 (by
      rw [hroom, hlen, ← hn, ← Nat.pow_add, show i + 1 + (15 - (i + 1)) = 15 by omega])
    rw [portagelaw4_LimitEven.j1, if_neg (by decide)]
    exact same _ _ (by omega) hR _ 0 k2 (Nat.zero_add _) (by omega)) n 0 2000 (by omega) (by omega)
  rw [List.replicate_zero, List.nil_append] at hF
  exact hF
end Go.Proofs.Ytbifignggnfodaa.Pure
