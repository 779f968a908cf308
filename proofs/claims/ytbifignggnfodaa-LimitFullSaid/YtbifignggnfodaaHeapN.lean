/- Lengths by counts, over plain lists: trees are joined, the two least ones at a time; what this keeps. No program in sight. -/
import Derived.Test.YtbifignggnfodaaHeapL
namespace Go.Proofs.Ytbifignggnfodaa.HeapM
set_option linter.unusedVariables false
set_option linter.unusedSimpArgs false
/-- A symbol's length. -/
def o (out : List Int) (s : Int) : Int := out.getD s.toNat 0
/-- Symbols stand one deeper. -/
def bump : List Int → List Int → List Int
  | out, [] => out
  | out, s :: ss => bump (out.set s.toNat (o out s + 1)) ss
def start (i : Nat) : List Int → List T
  | [] => []
  | n :: ns => if 0 < n then ⟨n, i, [(i : Int)]⟩ :: start (i + 1) ns else start (i + 1) ns
def join (a b : T) (made : Int) : T := ⟨a.w + b.w, made, a.s ++ b.s⟩
def rounds : Nat → List T → Int → List Int → List Int
  | 0, _, _, out => out
  | k + 1, ts, made, out => if 1 < ts.length then rounds k (push (pop (pop ts).2).2 (join (pop ts).1 (pop (pop ts).2).1 made)) (made + 1) (bump out ((pop ts).1.s ++ (pop (pop ts).2).1.s)) else out
def deepM (cs : List Int) : List Int := rounds cs.length (init (start 0 cs)) cs.length (List.replicate cs.length 0)
def half (cs : List Int) : List Int := cs.map fun n => (n + 1) / 2
def used (cs : List Int) : Nat := (cs.filter fun n => decide (0 < n)).length
theorem bump_length : ∀ (ss out : List Int), (bump out ss).length = out.length
  | [], _ => rfl
  | s :: ss, out => by unfold bump; rw [bump_length ss]; simp
theorem o_set (out : List Int) (s q x : Int) (h0 : 0 ≤ s) (h1 : s < out.length) (hq : 0 ≤ q) : o (out.set s.toNat x) q = if q = s then x else o out q := by
  unfold o
  rw [List.getD_eq_getElem?_getD, List.getElem?_set]
  by_cases e : q = s
  · rw [if_pos e, if_pos (by omega), if_pos (by omega)]; rfl
  · rw [if_neg e, if_neg (by omega), List.getD_eq_getElem?_getD]
theorem o_bump : ∀ (ss out : List Int), ss.Nodup → (∀ s ∈ ss, 0 ≤ s ∧ s < out.length) → ∀ q, 0 ≤ q → o (bump out ss) q = if q ∈ ss then o out q + 1 else o out q
  | [], out, _, _, q, hq => by unfold bump; simp
  | s :: ss, out, hn, hr, q, hq => by
    obtain ⟨h1, h2⟩ := List.nodup_cons.1 hn
    have hs := hr s (List.mem_cons_self ..)
    unfold bump
    rw [o_bump ss _ h2 (fun x hx => by rw [List.length_set]; exact hr x (List.mem_cons_of_mem _ hx)) q hq, o_set _ _ _ _ hs.1 hs.2 hq]
    by_cases e : q = s
    · subst e
      rw [if_pos rfl, if_neg h1, if_pos (List.mem_cons_self ..)]
    · rw [if_neg e]
      by_cases e2 : q ∈ ss
      · rw [if_pos e2, if_pos (List.mem_cons_of_mem _ e2)]
      · rw [if_neg e2, if_neg (fun h => (List.mem_cons.1 h).elim e e2)]
def wsum : List T → Int
  | [] => 0
  | t :: ts => t.w + wsum ts
theorem wsum_perm {a b : List T} (h : a.Perm b) : wsum a = wsum b := by
  induction h with
  | nil => rfl
  | cons x _ ih => unfold wsum; rw [ih]
  | swap x y l => simp only [wsum]; omega
  | trans _ _ h1 h2 => exact h1.trans h2
def syms : List T → List Int
  | [] => []
  | t :: ts => t.s ++ syms ts
theorem syms_perm {a b : List T} (h : a.Perm b) : (syms a).Perm (syms b) := by
  induction h with
  | nil => exact List.Perm.refl _
  | cons x _ ih => exact ih.append_left _
  | swap x y l => simp only [syms]; rw [← List.append_assoc, ← List.append_assoc]; exact List.perm_append_comm.append_right _
  | trans _ _ h1 h2 => exact h1.trans h2
theorem mem_syms {ts : List T} {t : T} {s : Int} (h : t ∈ ts) (hs : s ∈ t.s) : s ∈ syms ts := by
  induction ts with
  | nil => cases h
  | cons x ts ih =>
    unfold syms
    rcases List.mem_cons.1 h with e | e
    · subst e; exact List.mem_append_left _ hs
    · exact List.mem_append_right _ (ih e)
/-- How much room codes take, of 2 to the power of N. -/
def krf (N : Nat) (out : List Int) : List Int → Nat
  | [] => 0
  | s :: ss => 2 ^ (N - (o out s).toNat) + krf N out ss
theorem krf_append (N : Nat) (out : List Int) : ∀ (a b : List Int), krf N out (a ++ b) = krf N out a + krf N out b
  | [], b => by simp [krf]
  | s :: a, b => by
    have := krf_append N out a b
    simp only [List.cons_append, krf, this]
    omega
theorem krf_same (N : Nat) (out out' : List Int) : ∀ (a : List Int), (∀ s ∈ a, o out' s = o out s) → krf N out' a = krf N out a
  | [], _ => rfl
  | s :: a, h => by
    unfold krf
    rw [h s (List.mem_cons_self ..), krf_same N out out' a fun x hx => h x (List.mem_cons_of_mem _ hx)]
theorem krf_deeper (N : Nat) (out out' : List Int) : ∀ (a : List Int), (∀ s ∈ a, o out' s = o out s + 1 ∧ 0 ≤ o out s ∧ o out s < N) → 2 * krf N out' a = krf N out a
  | [], _ => rfl
  | s :: a, h => by
    obtain ⟨h1, h2, h3⟩ := h s (List.mem_cons_self ..)
    have ih := krf_deeper N out out' a fun x hx => h x (List.mem_cons_of_mem _ hx)
    unfold krf
    rw [h1]
    have e : N - (o out s).toNat = (N - (o out s + 1).toNat) + 1 := by omega
    rw [e, Nat.pow_succ]
    omega
theorem krf_perm (N : Nat) (out : List Int) {a b : List Int} (h : a.Perm b) : krf N out a = krf N out b := by
  induction h with
  | nil => rfl
  | cons x _ ih => unfold krf; rw [ih]
  | swap x y l => simp only [krf]; omega
  | trans _ _ h1 h2 => exact h1.trans h2
/-- What the rounds keep: L symbols, of which U come; S: all weights. -/
structure G (L N : Nat) (U : List Int) (S : Int) (ts : List T) (made : Int) (out : List Int) : Prop where
  pos : ∀ t ∈ ts, 0 < t.w
  sum : wsum ts = S
  sy : (syms ts).Perm U
  len : out.length = L
  lo : ∀ s, 0 ≤ s → 0 ≤ o out s
  hi : ∀ s, 0 ≤ s → o out s + ts.length ≤ N
  un : ∀ s, 0 ≤ s → s ∉ U → o out s = 0
  kr : ∀ t ∈ ts, krf N out t.s = 2 ^ N
  mb : ∀ t ∈ ts, t.m < made
  ms : (ts.map (·.m)).Nodup
theorem G.perm {L N : Nat} {U : List Int} {S : Int} {ts us : List T} {made : Int} {out : List Int} (g : G L N U S ts made out) (h : us.Perm ts) : G L N U S us made out :=
  ⟨fun t ht => g.pos t (h.mem_iff.1 ht), (wsum_perm h).trans g.sum, (syms_perm h).trans g.sy, g.len, g.lo, by rw [h.length_eq]; exact g.hi, g.un, fun t ht => g.kr t (h.mem_iff.1 ht), fun t ht => g.mb t (h.mem_iff.1 ht), (h.map _).nodup_iff.2 g.ms⟩
section
variable {L N : Nat} {U : List Int} {S : Int} {a b : T} {ts : List T} {made : Int} {out : List Int}
theorem G.split (g : G L N U S (a :: b :: ts) made out) (hu : U.Nodup) (hr : ∀ s ∈ U, 0 ≤ s ∧ s < L) : (a.s ++ b.s).Nodup ∧ (∀ s ∈ a.s ++ b.s, 0 ≤ s ∧ s < out.length) ∧ ∀ t ∈ ts, ∀ s ∈ t.s, s ∉ a.s ++ b.s := by
  have h0 : (syms (a :: b :: ts)).Nodup := g.sy.nodup_iff.2 hu
  have e : syms (a :: b :: ts) = (a.s ++ b.s) ++ syms ts := by simp only [syms, List.append_assoc]
  rw [e] at h0
  obtain ⟨h1, h2, h3⟩ := List.nodup_append.1 h0
  refine ⟨h1, fun s hs => ?_, fun t ht s hs hs2 => h3 s hs2 s (mem_syms ht hs) rfl⟩
  have := hr s (g.sy.mem_iff.1 (by rw [e]; exact List.mem_append_left _ hs))
  rw [g.len]
  exact this
theorem G.bumped (g : G L N U S (a :: b :: ts) made out) (hu : U.Nodup) (hr : ∀ s ∈ U, 0 ≤ s ∧ s < L) : ∀ q, 0 ≤ q → o (bump out (a.s ++ b.s)) q = if q ∈ a.s ++ b.s then o out q + 1 else o out q :=
  o_bump _ _ (g.split hu hr).1 (g.split hu hr).2.1
theorem G.step (g : G L N U S (a :: b :: ts) made out) (hu : U.Nodup) (hr : ∀ s ∈ U, 0 ≤ s ∧ s < L) : G L N U S (join a b made :: ts) (made + 1) (bump out (a.s ++ b.s)) := by
  obtain ⟨h1, h2, h3⟩ := g.split hu hr
  have hb := g.bumped hu hr
  have hU : ∀ s, s ∈ a.s ++ b.s → s ∈ U := fun s hs => g.sy.mem_iff.1 (by
    rcases List.mem_append.1 hs with h | h
    · exact mem_syms (List.mem_cons_self ..) h
    · exact mem_syms (List.mem_cons_of_mem _ (List.mem_cons_self ..)) h)
  have hts : ∀ t ∈ ts, ∀ s ∈ t.s, 0 ≤ s := fun t ht s hs => (hr s (g.sy.mem_iff.1 (mem_syms (List.mem_cons_of_mem _ (List.mem_cons_of_mem _ ht)) hs))).1
  refine ⟨fun t ht => ?_, ?_, ?_, by rw [bump_length]; exact g.len, fun s hs => ?_, fun s hs => ?_, fun s hs hn => ?_, fun t ht => ?_, fun t ht => ?_, ?_⟩
  · rcases List.mem_cons.1 ht with e | e
    · subst e
      have h1 := g.pos a (by simp)
      have h2 := g.pos b (by simp)
      show 0 < a.w + b.w
      omega
    · exact g.pos t (List.mem_cons_of_mem _ (List.mem_cons_of_mem _ e))
  · have := g.sum
    simp only [wsum, join] at this ⊢
    omega
  · have := g.sy
    simp only [syms, join] at this ⊢
    rw [List.append_assoc]
    exact this
  · rw [hb s hs]
    have := g.lo s hs
    split <;> omega
  · rw [hb s hs]
    have := g.hi s hs
    simp only [List.length_cons] at this ⊢
    split <;> omega
  · rw [hb s hs, if_neg (fun h => hn (hU s h))]
    exact g.un s hs hn
  · rcases List.mem_cons.1 ht with e | e
    · subst e
      have ka := g.kr a (by simp)
      have kb := g.kr b (by simp)
      have hd : 2 * krf N (bump out (a.s ++ b.s)) (a.s ++ b.s) = krf N out (a.s ++ b.s) := krf_deeper N out _ _ fun s hs => by
        have h0 := (h2 s hs).1
        rw [hb s h0, if_pos hs]
        have h5 := g.hi s h0
        simp only [List.length_cons] at h5
        exact ⟨rfl, g.lo s h0, by omega⟩
      rw [krf_append N out, ka, kb] at hd
      show krf N (bump out (a.s ++ b.s)) (a.s ++ b.s) = 2 ^ N
      omega
    · rw [← g.kr t (List.mem_cons_of_mem _ (List.mem_cons_of_mem _ e))]
      exact krf_same N out _ _ fun s hs => by rw [hb s (hts t e s hs), if_neg (h3 t e s hs)]
  · rcases List.mem_cons.1 ht with e | e
    · subst e
      show made < made + 1
      omega
    · have := g.mb t (List.mem_cons_of_mem _ (List.mem_cons_of_mem _ e))
      omega
  · have h1 := g.ms
    simp only [List.map_cons, List.nodup_cons] at h1 ⊢
    refine ⟨fun h => ?_, h1.2.2⟩
    obtain ⟨t, ht, e⟩ := List.mem_map.1 h
    have := g.mb t (List.mem_cons_of_mem _ (List.mem_cons_of_mem _ ht))
    have e2 : t.m = made := e
    omega
end
/-- The two least ones, and the others. -/
theorem two (ts : List T) (h : Heap ts) (h1 : 1 < ts.length) : ∃ a b us, (pop ts).1 = a ∧ (pop (pop ts).2).1 = b ∧ (pop (pop ts).2).2 = us ∧ (a :: b :: us).Perm ts ∧ Heap us ∧ (∀ x ∈ a :: b :: us, lt x a = false) ∧ (∀ x ∈ b :: us, lt x b = false) ∧ us.length + 2 = ts.length := by
  obtain ⟨p1, p2, p3, p4⟩ := pop_is ts h (by omega)
  obtain ⟨q1, q2, q3, q4⟩ := pop_is (pop ts).2 p1 (by omega)
  have e : ((pop ts).1 :: (pop (pop ts).2).1 :: (pop (pop ts).2).2).Perm ts := (q2.cons _).trans p2
  exact ⟨_, _, _, rfl, rfl, rfl, e, q1, fun x hx => p3 x (e.mem_iff.1 hx), fun x hx => q3 x (q2.mem_iff.1 hx), by omega⟩
/-- What each round keeps is kept at the end. -/
theorem rounds_inv (P : List T → Int → List Int → Prop) (hp : ∀ ts us made out, us.Perm ts → P ts made out → P us made out)
    (hs : ∀ a b ts made out, P (a :: b :: ts) made out → (∀ x ∈ a :: b :: ts, lt x a = false) → (∀ x ∈ b :: ts, lt x b = false) → P (join a b made :: ts) (made + 1) (bump out (a.s ++ b.s))) :
    ∀ (k : Nat) (ts : List T) (made : Int) (out : List Int), Heap ts → ts.length ≤ k + 1 → P ts made out → ∃ us made', us.length ≤ 1 ∧ (us = [] ↔ ts = []) ∧ P us made' (rounds k ts made out)
  | 0, ts, made, out, h, hk, hP => ⟨ts, made, hk, Iff.rfl, hP⟩
  | k + 1, ts, made, out, h, hk, hP => by
    unfold rounds
    by_cases h1 : 1 < ts.length
    · rw [if_pos h1]
      obtain ⟨a, b, us, e1, e2, e3, p1, p2, p3, p4, p5⟩ := two ts h h1
      rw [e1, e2, e3]
      have hq := push_is us (join a b made) p2
      have hP2 := hs a b us made out (hp _ _ _ _ p1 hP) p3 p4
      obtain ⟨vs, m', c1, c2, c3⟩ := rounds_inv P hp hs k (push us (join a b made)) (made + 1) (bump out (a.s ++ b.s)) hq.1 (by rw [hq.2.length_eq]; simp only [List.length_cons]; omega) (hp _ _ _ _ hq.2 hP2)
      refine ⟨vs, m', c1, ?_, c3⟩
      rw [c2]
      constructor
      · intro e
        have := hq.2.length_eq
        rw [e] at this
        simp at this
      · intro e
        rw [e] at h1
        simp at h1
    · rw [if_neg h1]
      exact ⟨ts, made, by omega, Iff.rfl, hP⟩
end Go.Proofs.Ytbifignggnfodaa.HeapM
