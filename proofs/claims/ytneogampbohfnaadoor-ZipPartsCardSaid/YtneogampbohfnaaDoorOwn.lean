/- Small lemmas of this session on rows that are read or owned, over the printed words; no program in sight. -/
import Derived.Test.YtneogampbohfnaaDoorWMore
import Derived.Test.YtneogampbohfnaaDoorWKept
import Derived.Test.YtneogampbohfnaaDoorWN
import Derived.Lib.SliceRun
import Derived.Test.YtneogampbohfnaaDoorWFoot
import Derived.Test.YtneogampbohfnaaDoorWShare
namespace Go.Proofs.YtneogampbohfnaaDoorW.Own
open Go.RowKit Go.Proofs.YtneogampbohfnaaDoorW.PrintWords Go.Proofs.YtneogampbohfnaaDoorW.PrintLast Go.Proofs.YtneogampbohfnaaDoorW.PrintMore
/-- Nothing is read at nil. -/
theorem C_none {α : Type} {d : Kd α} {w : World} {xs : List α} (h : Kd.C d w none xs.length xs) : xs = [] := by
  cases xs with
  | nil => rfl
  | cons x xs =>
    obtain ⟨ad, e, _⟩ := h.2.2 (by simp)
    cases e
/-- A slice cut longer than it is, within its capacity. -/
theorem up_to {P : Program} (t e : TypeId) (kh : IntKind) {i : TypeInfo} (ht : P.underlying t = some (.slice e)) (hi : P.info? e = some i) (A : Option Addr) (n m c : Nat) (j : Int) (h0 : 0 ≤ j) (hm : j ≤ m) (hc : m ≤ c) :
    ∀ W : World, (Instr.slice t (.slice A n c) none (some (.int kh j)) none).run P W = .ok (.slice A j.toNat c) W := by
  intro W
  have hel : P.elem t = e := by simp [Program.elem, ht]
  have hu : P.underlying t = some (.slice (P.elem t)) := by rw [hel]; exact ht
  have ha : (A.map fun x => x.add 0) = A := by cases A <;> simp [Addr.add]
  rw [run_slice_h W t A n c hu kh j h0 (by omega), hel]
  simp [sizeOf, typeInfo, hi, sliced, Result.andThen, ha]
/-- A nil slice cut up to 0. -/
theorem nil_cut {P : Program} (t e : TypeId) (kh : IntKind) {s : Nat} (ht : P.underlying t = some (.slice e)) (hi : (P.info? e).map (·.size) = some s) :
    ∀ W : World, (Instr.slice t (.slice none 0 0) none (some (.int kh 0)) none).run P W = .ok (.slice none 0 0) W := by
  obtain ⟨i, hi, _⟩ := Option.map_eq_some_iff.mp hi
  exact up_to t e kh ht hi none 0 0 0 0 (by decide) (by decide) (by decide)
/-- A cut that begins behind a row's first element stands at a plain place. -/
theorem look_spot {P : Program} {t e : TypeId} {z : Value} {b : Nat} (ht : P.underlying t = some (.slice e)) (hinfo : (P.info? e).map (fun i => (i.zero, i.size, i.bytes)) = some (some z, 1, b)) {A0 : Option Addr} {n c : Nat} {lo : Int} {A' : Option Addr} {n' c' : Nat}
    (h : ∀ W : World, (Instr.slice t (.slice A0 n c) (some (.int .i64 lo)) (some (.int .i64 (wrap64 (lo + 64)))) none).run P W = .ok (.slice A' n' c') W) (W : World) {a : Int} (z0 : 0 ≤ a) (z1 : a < (n : Int)) (hn : n ≤ 9223372036854775807) (hc : n ≤ c) (hl : wrap64 (a + 1) = lo) (h0 : 0 ≤ lo) (h1 : lo ≤ wrap64 (lo + 64)) (h2 : wrap64 (lo + 64) ≤ (n : Int)) :
    ∀ ad, A' = some ad → ad.spot = none := by
  obtain ⟨i, hi, _, hs, _⟩ := info_parts hinfo
  have hm := cut_mid t e .i64 .i64 ht hi 1 hs A0 n c lo (wrap64 (lo + 64)) h0 h1 h2 hc W
  have he := (h W).symm.trans hm
  have hlo : lo = a + 1 := by
    rw [← hl]
    rw [← hl] at h0
    unfold wrap64 at h0 ⊢
    omega
  have hlt : lo < (n : Int) := by
    clear hl
    unfold wrap64 at h1 h2
    omega
  have hne : ¬ c = lo.toNat := by omega
  rw [if_neg hne] at he
  intro ad had
  subst had
  injection he with he _
  injection he with he _ _
  cases A0 with
  | none => cases he
  | some x =>
    have he := Option.some.inj he
    rw [he]
    show (Addr.add x (lo.toNat * 1)).spot = none
    unfold Addr.add
    rw [if_neg (by omega)]
/-- A string's bytes, as a slice of their own: told as what is only read. -/
theorem bytes_V (W : World) (e : TypeId) (s : ByteArray) (hs : s.size ≤ 9223372036854775807) (c : Nat) (hc : s.size ≤ c) : Kd.V (Kd.int .u8) e (Lib.bytesWorld W e s) W.heap.size (fun k => W.heap.size ≤ k) (.slice (some ⟨W.heap.size, 0, none⟩) s.size c) (bytesOf s) := by
  have hl : (bytesOf s).length = s.size := bytesOf_length s
  rw [← hl]
  refine Kd.V_mk (by omega) fun W' hW => ?_
  have hb := hW W.heap.size (Nat.le_refl _) (by rw [Lib.bytesWorld_size]; omega)
  have hr := bytes_reads W e s hs
  rw [hl]
  refine Kd.C_of_reads (d := (0 : Int)) (h1 := fun _ => rfl) ⟨hl, hs, fun hn => ?_⟩
  obtain ⟨ad, e1, hc⟩ := hr.2.2 hn
  cases e1
  refine ⟨_, rfl, fun j hj => ?_⟩
  have h1 := hc j hj
  rw [add_plain] at h1 ⊢
  unfold World.cell? at h1 ⊢
  rw [hb]
  exact h1
section
variable {P : Program} {ops : Array Oper} {rest : List Oper} {o : Oper} {a : Act} {Q : Exit → Act → World → Prop}
theorem bytes_event {W : World} (hgd : o.guard = none) {N : Tmp} (_hd : o.dst = some N) {s : ByteArray} {e : TypeId} (hs : s.size ≤ 9223372036854775807)
    (hrun : (execOp a.eval o).run P W = .ok (.value (.slice (some ⟨W.heap.size, 0, none⟩) s.size (grownCap W s.size 0 e))) (Lib.bytesWorld W e s))
    (h : ∀ v w1, Kd.V (Kd.int .u8) e w1 W.heap.size (fun k => W.heap.size ≤ k) v (bytesOf s) → Below W.heap.size W w1 → True → True → wpList P ops Q rest (a.put o.dst v) w1) : wpList P ops Q (o :: rest) a W :=
  Kd.event_run hgd hrun (h _ _ (bytes_V W e s hs _ (grownCap_ge W s.size 0 e)) (bytes_below (Below.refl _ _) (Nat.le_refl _) e s) trivial trivial)
end
end Go.Proofs.YtneogampbohfnaaDoorW.Own
