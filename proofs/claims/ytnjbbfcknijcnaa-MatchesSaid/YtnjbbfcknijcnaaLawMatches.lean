-- The row 'Matches', by hand after the printed rows: a string, and a slice of structs of three whole numbers.
import Derived.Test.YtnjbbfcknijcnaaRows
import Derived.Test.YtnjbbfcknijcnaaMatchZN
import Derived.WalkKit
import Derived.ProofKit
import Derived.OpenShut
import Derived.ShutString
import Derived.ChangeOld
import Derived.Below
import Derived.SizedLaws
import Derived.ChangeSame
import Derived.Deep.Slices
import Derived.Deep.Strs
import Derived.Test.YtnjbbfcknijcnaaWSized
namespace Go.Proofs.Ytnjbbfcknijcnaa.matches
open Go.ChangeShapes Go.WideShapes Go.ChangeAt Go.RowKit
open Go.ChangeMaps (open_string shut_string)
open Go.Proofs.YtnjbbfcknijcnaaW.PrintWords Go.Proofs.YtnjbbfcknijcnaaW.PrintLast Go.Proofs.YtnjbbfcknijcnaaW.PrintMore
set_option linter.unusedVariables false
theorem own : ownKnob Try.prog.godebug = none := by kernel_rfl
theorem laidOut : laidOutB Try.prog = true := by kernel_rfl
theorem choose_list {α : Type} {Q : Nat → α → Prop} : ∀ n : Nat, (∀ i, i < n → ∃ t, Q i t) → ∃ xs : List α, xs.length = n ∧ ∀ (i : Nat) t, xs[i]? = some t → Q i t
  | 0, _ => ⟨[], rfl, fun i t h => by simp at h⟩
  | n + 1, h => by
    obtain ⟨xs, hl, hx⟩ := choose_list n (fun i hi => h i (by omega))
    obtain ⟨t, ht⟩ := h n (by omega)
    refine ⟨xs ++ [t], by simp [hl], fun i u hu => ?_⟩
    rcases Nat.lt_or_ge i xs.length with hi | hi
    · rw [List.getElem?_append_left hi] at hu; exact hx i u hu
    · rw [List.getElem?_append_right hi] at hu
      have : i - xs.length = 0 := by
        rcases Nat.lt_or_ge 0 (i - xs.length) with h0 | h0
        · rw [List.getElem?_eq_none (by simp; omega)] at hu; exact absurd hu (by simp)
        · omega
      rw [this] at hu
      simp at hu
      subst hu
      rw [show i = n from by omega]
      exact ht
section
variable {H : Type} {enc : TypeId × Value → H} {W : World} {base : Nat} {spare : Nat → Bool} {held : Bool}
set_option maxRecDepth 100000 in
/-- A slice of tokens, as it was handed in. -/
theorem open_tokens {fuel : Nat} {cs : List Value} {x : DataW H × List MemPlace} (h : DataW.trod enc Try.prog W base spare held fuel 57 cs = some x) :
    (cs = [.slice none 0 0]) ∨ ∃ (a : Addr) (len cap m : Nat) (D : Nat → DataW H) (xs : List N.S72), cs = [.slice (some a) len cap] ∧ len ≤ cap ∧ cap ≤ maxLen ∧ len ≤ m ∧ x.1 = .slice ((List.range len).map D) ((List.range (m - len)).map fun j => D (len + j)) ∧ Kd.C N.k72 W (some a) len xs := by
  rcases Go.Deep.open_slice Try.underlying57 h with h0 | ⟨a, len, cap, m, n, D, Pl, hcs, hb, hl, hm, hmm, hx, hi⟩
  · exact .inl h0.1
  have hlm : len ≤ m := by rw [hmm]; split <;> omega
  have hc : Try.prog.cellsOf 72 = 3 := by kernel_rfl
  have hQ : ∀ i, i < len → ∃ t : N.S72, ∀ j u, ([.int .i64 t.f0, .int .i64 t.f1, .int .i64 t.f2] : List Value)[j]? = some u → W.cell? (a.add (i * 3 + j)) = some u := by
    intro i hil
    obtain ⟨cs', hcell, ht⟩ := hi i (by omega)
    rw [hc] at hcell
    obtain ⟨_, hcl, hat⟩ := World.cells?_some hcell
    obtain ⟨y0, y1, y2, n', _, _, h0, h1, h2⟩ := Go.Deep.trod_struct3 Try.underlying72 ht
    have hc3 : Try.prog.cellsOf 3 = 1 := by kernel_rfl
    match cs', hcl with
    | [c0, c1, c2], _ =>
      simp only [hc3, List.drop_zero, List.take_succ_cons, List.take_zero, List.drop_succ_cons] at h0 h1 h2
      obtain ⟨z0, e0, _, _⟩ := DataW.trod_int Try.underlying3 h0
      obtain ⟨z1, e1, _, _⟩ := DataW.trod_int Try.underlying3 h1
      obtain ⟨z2, e2, _, _⟩ := DataW.trod_int Try.underlying3 h2
      injection e0 with e0 _; injection e1 with e1 _; injection e2 with e2 _
      subst e0; subst e1; subst e2
      refine ⟨⟨z0, z1, z2⟩, fun j u hu => ?_⟩
      rw [← Go.Deep.add_add]
      match j, hu with
      | 0, hu => exact (hat 0 (by omega)).trans hu
      | 1, hu => exact (hat 1 (by omega)).trans hu
      | 2, hu => exact (hat 2 (by omega)).trans hu
      | j + 3, hu => simp at hu
  obtain ⟨xs, hxl, hxs⟩ := choose_list len hQ
  refine .inr ⟨a, len, cap, m, D, xs, hcs, hl, hm, hlm, by rw [hx], hxl, ?_, fun _ => ⟨a, rfl, fun j p hj => ⟨_, rfl, N.k72_mk W p, fun i u hu => hxs j p hj i u hu⟩⟩⟩
  have : maxLen ≤ 9223372036854775807 := by decide
  omega
end
set_option maxRecDepth 100000 in
theorem lifted (os : Os) (started : os.Started) (H : Type) (enc : TypeId × Value → H) :
    ReturnsInHanded {} Try.checked os 13 .any (Rows.matchesSpec.pre6 enc Try.prog Try.f13 Rows.matchesRow.domain false) (Rows.matchesSpec.post enc Try.prog Try.f13 false true false false) := by
  refine returnsInHanded_of_change_sized (C := Try.checked) own started (by kernel_rfl) Try.func13
    (ChangeSpec.witness6 (enc := enc) (C := Try.checked) false ⟨#[], #[.string ByteArray.empty, .slice none 0 0], []⟩ 8 (by kernel_rfl) (by kernel_rfl) (by kernel_rfl) (by kernel_rfl)) ?_
  intro W base args ds gs before hval0 hW hcnd hsz0 _
  have hsz : (DataW.weightsEach Try.prog (Try.f13.params.toList ++ Rows.matchesSpec.plain.varTypes Try.prog) (ds ++ gs)).all (· ≤ reachBytes) = true := hsz0
  have hval : ∀ (j : Nat) t v, Try.f13.params[j]? = some t → args[j]? = some v → Value.okWide Try.prog W .any base t v := hval0
  have hW' := hW
  obtain ⟨p, q, hA0, hV, rfl, hfz, hnd⟩ := hW
  have hA : DataW.TrodAll enc Try.prog W 0 (fun _ => true) true Try.f13.params.toList args.toList ds p := hA0
  rw [Try.params13] at hA hval hsz
  obtain ⟨v0, vs0, d0, ds0, p0, q0, hargs, rfl, rfl, h0, r0⟩ := trodAll_cons hA
  obtain ⟨v1, vs1, d1, ds1, p1, q1, rfl, rfl, rfl, h1, r1⟩ := trodAll_cons r0
  obtain ⟨rfl, rfl, rfl⟩ := trodAll_nil r1
  obtain rfl : args = #[v0, v1] := by cases args; simp_all
  obtain ⟨rfl, rfl⟩ := trodVars_none hV
  obtain ⟨a0, rfl, rfl, rfl, y0⟩ := open_string Try.underlying9 (hval 0 9 v0 rfl rfl) h0
  obtain ⟨a1, len1, cap1, rfl⟩ := okWide_slice Try.underlying57 (hval 1 57 v1 rfl rfl)
  have k1 := h1
  have lt1 : ∀ x ∈ p1, x.block < W.heap.size := by obtain ⟨m, hm⟩ := k1; exact DataW.trod_lt m _ _ _ hm
  obtain ⟨xs, hC, hcap, hlen⟩ : ∃ xs : List N.S72, Kd.C N.k72 W a1 len1 xs ∧ len1 ≤ cap1 ∧ len1 ≤ 5864062014634 := by
    obtain ⟨fuel, hf⟩ := h1
    rcases open_tokens hf with hcs | ⟨x, l, c, m, D, xs, hcs, hl, hm, hlm, hd, hC⟩
    · simp [Value.cells] at hcs
      obtain ⟨rfl, rfl, rfl⟩ := hcs
      exact ⟨[], Kd.C_nil _ _, Nat.le_refl _, by omega⟩
    · simp [Value.cells] at hcs
      obtain ⟨rfl, rfl, rfl⟩ := hcs
      have hd : d1 = .slice ((List.range len1).map D) ((List.range (m - len1)).map fun j => D (len1 + j)) := hd
      subst hd
      have z := sized_slice hsz (j := 1) (t := 57) rfl rfl Try.underlying57
      have hB : Try.prog.bytesOf 72 = 24 := by kernel_rfl
      rw [hB] at z
      simp only [List.length_map, List.length_range] at z
      have hr : reachBytes = 140737488351232 := by decide
      exact ⟨xs, hC, hl, by omega⟩
  clear hA0 hval0 hsz0 hsz
  obtain ⟨k, hk⟩ := N.matches_k a0 xs (by rw [hC.1]; exact hlen)
  have hn := hC.1
  subst hn
  refine (N.portagelaw5_Matches.calls k a0 a1 cap1 xs true W hC hcap hk).mono fun e W' he => ?_
  obtain ⟨he, bel⟩ := he
  subst he
  exact ⟨_, rfl, _, _, _, [], _, [], hW', trodAll_mk1 (shut_bool Try.underlying4 _), (trodAll_cons_mk (shut_string Try.underlying9 y0) (trodAll_cons_mk (Below.trod laidOut (by kernel_rfl) (of_decide_eq_true (by kernel_rfl)) k1 bel lt1) trodAll_mk0)), rfl, bel.frame _, fun h => by cases h⟩
theorem over : Rows.matchesRow.holds Try.pinned (OpenSpec.ofChange Rows.matchesSpec) :=
  OpenClaim.holds_of_wide 13 Try.f13 rfl rfl rfl rfl rfl rfl rfl ⟨rfl, rfl, rfl, rfl, rfl⟩ rfl rfl rfl rfl rfl (by kernel_rfl) Try.func13 (by kernel_rfl)
    (of_decide_eq_true (by kernel_rfl)) (by unfold Func.isWrapper; first | (rw [if_pos (by decide +kernel)]; kernel_rfl) | (rw [if_neg (by decide +kernel)]; exact ⟨rfl, rfl⟩))
    (fun os started H enc _ => lifted os started H enc)
theorem proved : Rows.MatchesSaid := over
#print axioms proved
end Go.Proofs.Ytnjbbfcknijcnaa.matches
namespace Go.Proofs.Ytnjbbfcknijcnaa
/-- The row, under a short name, for the claim. -/
theorem matches_holds : Rows.MatchesSaid := matches.proved
end Go.Proofs.Ytnjbbfcknijcnaa
