/- The sums of chapter 2 as plain functions on natural numbers: one bit's step, one byte's, a list's; they are linear over exclusive or, and a step loses nothing. No program in sight. -/
namespace Go.Proofs.Ytnjbbfcknijcnaa.CrcM
def P : Nat := 3988292384
def step (c : Nat) : Nat := if c % 2 = 1 then (c / 2) ^^^ P else c / 2
def steps : Nat → Nat → Nat
  | 0, c => c
  | n + 1, c => steps n (step c)
def byte (c b : Nat) : Nat := steps 8 (c ^^^ b)
def fold (c : Nat) (l : List UInt8) : Nat := l.foldl (fun c b => byte c b.toNat) c
def M : Nat := 4294967295
def xo (a b : Nat) : Nat := a ^^^ b
def compl (c : Nat) : Nat := xo M c
theorem compl_eq (c : Nat) : compl c = M ^^^ c := rfl
theorem xor_lt {a b : Nat} (ha : a < 4294967296) (hb : b < 4294967296) : a ^^^ b < 4294967296 := Nat.xor_lt_two_pow (n := 32) ha hb
theorem step_lt {c : Nat} (h : c < 4294967296) : step c < 4294967296 := by
  unfold step
  split
  · exact xor_lt (by omega) (by unfold P; omega)
  · omega
theorem steps_lt : ∀ (n : Nat) {c : Nat}, c < 4294967296 → steps n c < 4294967296
  | 0, _, h => h
  | n + 1, _, h => steps_lt n (step_lt h)
theorem byte_lt {c b : Nat} (h : c < 4294967296) (hb : b < 256) : byte c b < 4294967296 := by
  unfold byte
  exact steps_lt 8 (xor_lt h (by omega))
theorem fold_lt : ∀ (l : List UInt8) {c : Nat}, c < 4294967296 → fold c l < 4294967296
  | [], _, h => h
  | b :: l, _, h => fold_lt l (byte_lt h b.toNat_lt)
theorem compl_lt {c : Nat} (h : c < 4294967296) : compl c < 4294967296 := by
  rw [compl_eq]
  exact xor_lt (by unfold M; omega) h
theorem xor_xor (m c : Nat) : m ^^^ (m ^^^ c) = c := by rw [← Nat.xor_assoc, Nat.xor_self, Nat.zero_xor]
theorem xo_xo (m c : Nat) : xo m (xo m c) = c := xor_xor m c
theorem compl_compl (c : Nat) : compl (compl c) = c := xo_xo M c
theorem fold_append (c : Nat) (l m : List UInt8) : fold c (l ++ m) = fold (fold c l) m := by unfold fold; rw [List.foldl_append]
-- linear
theorem xor_mod (a b : Nat) : (a ^^^ b) % 2 = (a % 2 + b % 2) % 2 := by
  have h := Nat.testBit_xor (x := a) (y := b) (i := 0)
  rw [Nat.testBit_zero, Nat.testBit_zero, Nat.testBit_zero] at h
  have ha := Nat.mod_two_eq_zero_or_one a
  have hb := Nat.mod_two_eq_zero_or_one b
  have hc := Nat.mod_two_eq_zero_or_one (a ^^^ b)
  rcases ha with ha | ha <;> rcases hb with hb | hb <;> rcases hc with hc | hc <;> simp [ha, hb, hc] at h ⊢
theorem xor_div (a b : Nat) : (a ^^^ b) / 2 = a / 2 ^^^ b / 2 := by
  apply Nat.eq_of_testBit_eq
  intro i
  rw [Nat.testBit_xor, Nat.testBit_div_two, Nat.testBit_div_two, Nat.testBit_div_two, Nat.testBit_xor]
theorem step_xor (a b : Nat) : step (a ^^^ b) = step a ^^^ step b := by
  unfold step
  rw [xor_mod, xor_div]
  have ha := Nat.mod_two_eq_zero_or_one a
  have hb := Nat.mod_two_eq_zero_or_one b
  rcases ha with ha | ha <;> rcases hb with hb | hb <;> simp [ha, hb]
  · rw [Nat.xor_assoc]
  · rw [Nat.xor_assoc, Nat.xor_comm (b / 2) P, ← Nat.xor_assoc]
  · rw [Nat.xor_assoc, Nat.xor_comm P, Nat.xor_assoc, Nat.xor_self, Nat.xor_zero]
theorem steps_xor : ∀ (n a b : Nat), steps n (a ^^^ b) = steps n a ^^^ steps n b
  | 0, _, _ => rfl
  | n + 1, a, b => by show steps n (step (a ^^^ b)) = _; rw [step_xor, steps_xor n]; rfl
theorem xor4 (a b c d : Nat) : (a ^^^ b) ^^^ (c ^^^ d) = (a ^^^ c) ^^^ (b ^^^ d) := by
  apply Nat.eq_of_testBit_eq
  intro i
  simp only [Nat.testBit_xor]
  cases a.testBit i <;> cases b.testBit i <;> cases c.testBit i <;> cases d.testBit i <;> rfl
theorem byte_xor (a b p q : Nat) : byte (a ^^^ b) (p ^^^ q) = byte a p ^^^ byte b q := by unfold byte; rw [xor4, steps_xor]
-- nothing is lost
theorem step_zero : step 0 = 0 := rfl
theorem step_ne {c : Nat} (h : c < 4294967296) (h0 : c ≠ 0) : step c ≠ 0 := by
  unfold step
  split
  · intro e
    have h1 : c / 2 = P := by
      have := congrArg (· ^^^ P) e
      simpa [Nat.xor_assoc, Nat.xor_self] using this
    unfold P at h1
    omega
  · omega
theorem steps_zero : ∀ n, steps n 0 = 0
  | 0 => rfl
  | n + 1 => by show steps n (step 0) = 0; rw [step_zero, steps_zero n]
theorem steps_ne : ∀ (n : Nat) {c : Nat}, c < 4294967296 → c ≠ 0 → steps n c ≠ 0
  | 0, _, _, h => h
  | n + 1, _, h, h0 => steps_ne n (step_lt h) (step_ne h h0)
theorem steps_add : ∀ (m n c : Nat), steps (m + n) c = steps n (steps m c)
  | 0, n, c => by rw [Nat.zero_add]; rfl
  | m + 1, n, c => by rw [show m + 1 + n = (m + n) + 1 from by omega]; exact steps_add m n (step c)
/-- What stands n bits up is just shifted down by n steps. -/
theorem steps_shift : ∀ (n y : Nat), steps n (y * 2 ^ n) = y
  | 0, y => by simp [steps]
  | n + 1, y => by
    show steps n (step (y * 2 ^ (n + 1))) = y
    have h : step (y * 2 ^ (n + 1)) = y * 2 ^ n := by
      unfold step
      rw [show y * 2 ^ (n + 1) = 2 * (y * 2 ^ n) from by rw [Nat.pow_succ]; ac_rfl, Nat.mul_mod_right, if_neg (by decide), Nat.mul_div_cancel_left _ (by decide)]
    rw [h, steps_shift n y]
end Go.Proofs.Ytnjbbfcknijcnaa.CrcM
