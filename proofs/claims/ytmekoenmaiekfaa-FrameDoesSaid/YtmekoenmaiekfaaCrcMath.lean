/-
  The plain law of the sums: one bit's step, eight of them, the table, the run over bytes; all linear over exclusive or, and one to one. No program in sight, no condition beyond what each line says.
-/
namespace Go.Proofs.Ytmekoenmaiekfaa
abbrev B32 := BitVec 32

def poly : B32 := 0xedb88320#32
/-- One bit's step. -/
def bs (n : B32) : B32 := (n >>> 1) ^^^ (if n.getLsbD 0 then poly else 0#32)
/-- k of them. -/
def bsk : Nat → B32 → B32
  | 0, n => n
  | k + 1, n => bsk k (bs n)
/-- The table at a number. -/
def tb (n : B32) : B32 := bsk 8 n
/-- One byte's step, by any table. -/
def stp (T : B32 → B32) (s : B32) (x : UInt8) : B32 := T ((s &&& 255#32) ^^^ BitVec.ofNat 32 x.toNat) ^^^ (s >>> 8)
def run (T : B32 → B32) (s : B32) (l : List UInt8) : B32 := l.foldl (stp T) s
/-- All bits set. -/
def ones : B32 := 4294967295#32
/-- The sum of bytes, by any table. -/
def smT (T : B32 → B32) (l : List UInt8) : B32 := ~~~ (run T ones l)
/-- The sum of bytes. -/
def sm (l : List UInt8) : B32 := smT tb l

theorem xor4 (a b c d : B32) : (a ^^^ b) ^^^ (c ^^^ d) = (a ^^^ c) ^^^ (b ^^^ d) := by
  simp only [BitVec.xor_assoc]; congr 1; rw [← BitVec.xor_assoc, BitVec.xor_comm b c, BitVec.xor_assoc]
theorem bs_xor (a b : B32) : bs (a ^^^ b) = bs a ^^^ bs b := by
  unfold bs
  rw [BitVec.ushiftRight_xor_distrib, xor4]
  congr 1
  rw [BitVec.getLsbD_xor]
  cases a.getLsbD 0 <;> cases b.getLsbD 0 <;> simp
theorem bs_zero : bs 0#32 = 0#32 := by decide
theorem bs_eq_zero {n : B32} (h : bs n = 0#32) : n = 0#32 := by
  unfold bs at h
  cases h0 : n.getLsbD 0 with
  | true =>
    rw [h0] at h
    have := congrArg (fun x : B32 => x.getLsbD 31) h
    simp [poly] at this
  | false =>
    rw [h0] at h
    simp only [Bool.false_eq_true, if_false, BitVec.xor_zero] at h
    apply BitVec.eq_of_getLsbD_eq
    intro i hi
    by_cases hi0 : i = 0
    · subst hi0; simpa using h0
    · have := congrArg (fun x : B32 => x.getLsbD (i - 1)) h
      simp only [BitVec.getLsbD_ushiftRight, BitVec.getLsbD_zero] at this
      rw [show 1 + (i - 1) = i by omega] at this
      simpa using this
theorem bsk_xor (k : Nat) : ∀ a b : B32, bsk k (a ^^^ b) = bsk k a ^^^ bsk k b := by
  induction k with
  | zero => intro a b; rfl
  | succ k ih => intro a b; simp only [bsk]; rw [bs_xor, ih]
theorem bsk_eq_zero (k : Nat) : ∀ n : B32, bsk k n = 0#32 → n = 0#32 := by
  induction k with
  | zero => intro n h; exact h
  | succ k ih => intro n h; exact bs_eq_zero (ih _ h)
theorem bsk_add (j k : Nat) (n : B32) : bsk (j + k) n = bsk k (bsk j n) := by
  induction j generalizing n with
  | zero => simp [bsk]
  | succ j ih => rw [show j + 1 + k = (j + k) + 1 by omega]; simp only [bsk]; rw [ih]
/-- A number whose last bit is not set is shifted. -/
theorem bs_even (m : B32) (h : m.getLsbD 0 = false) : bs m = m >>> 1 := by unfold bs; rw [h]; simp
theorem bsk_shift (k : Nat) : ∀ m : B32, (∀ i, i < k → m.getLsbD i = false) → bsk k m = m >>> k := by
  induction k with
  | zero => intro m _; simp [bsk]
  | succ k ih =>
    intro m h
    simp only [bsk]
    rw [bs_even m (h 0 (by omega)), ih]
    · apply BitVec.eq_of_getLsbD_eq
      intro i hi
      simp only [BitVec.getLsbD_ushiftRight]
      congr 1; omega
    · intro i hi
      rw [BitVec.getLsbD_ushiftRight]
      exact h (1 + i) (by omega)
/-- The high bytes go by as they are. -/
theorem bsk8_high (s : B32) : bsk 8 (s &&& ~~~ 255#32) = s >>> 8 := by
  rw [bsk_shift]
  · apply BitVec.eq_of_getLsbD_eq
    intro i hi
    simp only [BitVec.getLsbD_ushiftRight, BitVec.getLsbD_and, BitVec.getLsbD_not]
    by_cases h : 8 + i < 32
    · have : (255#32).getLsbD (8 + i) = false := by
        have : 255#32 = BitVec.ofNat 32 255 := rfl
        rw [this, BitVec.getLsbD_ofNat]
        simp only [h, decide_true, Bool.true_and]
        rw [Nat.testBit_lt_two_pow]
        calc 255 < 2 ^ 8 := by omega
          _ ≤ 2 ^ (8 + i) := Nat.pow_le_pow_right (by omega) (by omega)
      rw [this]; simp [h]
    · simp [BitVec.getLsbD_of_ge _ _ (show 32 ≤ 8 + i by omega)]
  · intro i hi
    have : i = 0 ∨ i = 1 ∨ i = 2 ∨ i = 3 ∨ i = 4 ∨ i = 5 ∨ i = 6 ∨ i = 7 := by omega
    rcases this with rfl | rfl | rfl | rfl | rfl | rfl | rfl | rfl <;> simp
theorem low_high (s : B32) : (s &&& 255#32) ^^^ (s &&& ~~~ 255#32) = s := by
  apply BitVec.eq_of_getLsbD_eq
  intro i hi
  simp only [BitVec.getLsbD_xor, BitVec.getLsbD_and, BitVec.getLsbD_not, hi, decide_true, Bool.true_and]
  cases s.getLsbD i <;> cases (255#32).getLsbD i <;> rfl
/-- A byte's step by the table is eight bits' steps. -/
theorem stp_tb (s : B32) (x : UInt8) : stp tb s x = bsk 8 (s ^^^ BitVec.ofNat 32 x.toNat) := by
  unfold stp tb
  rw [← bsk8_high s, ← bsk_xor]
  congr 1
  conv => rhs; rw [← low_high s]
  simp only [BitVec.xor_assoc]; congr 1; exact BitVec.xor_comm _ _

theorem run_append (T : B32 → B32) (s : B32) (a b : List UInt8) : run T s (a ++ b) = run T (run T s a) b := by simp [run]
theorem run_cons (T : B32 → B32) (s : B32) (x : UInt8) (l : List UInt8) : run T s (x :: l) = run T (stp T s x) l := rfl
theorem eq_of_xor {a b : B32} (h : a ^^^ b = 0#32) : a = b := by
  have := congrArg (· ^^^ b) h
  simpa [BitVec.xor_assoc] using this
theorem stp_inj {s t : B32} {x : UInt8} (h : stp tb s x = stp tb t x) : s = t := by
  rw [stp_tb, stp_tb] at h
  have h1 : bsk 8 ((s ^^^ BitVec.ofNat 32 x.toNat) ^^^ (t ^^^ BitVec.ofNat 32 x.toNat)) = 0#32 := by rw [bsk_xor, h]; simp
  have h2 := bsk_eq_zero 8 _ h1
  rw [xor4] at h2
  exact eq_of_xor (by simpa using h2)
theorem run_inj : ∀ (l : List UInt8) {s t : B32}, run tb s l = run tb t l → s = t
  | [], _, _, h => h
  | _ :: l, _, _, h => stp_inj (run_inj l h)

/-- A byte, eight bits higher for each k, as a number. -/
def hi (k : Nat) (x : UInt8) : B32 := BitVec.ofNat 32 x.toNat <<< (8 * k)
theorem hi_bit (k : Nat) (x : UInt8) (i : Nat) (h : i < 32) : (hi k x).getLsbD i = (decide (8 * k ≤ i) && x.toNat.testBit (i - 8 * k)) := by
  unfold hi
  rw [BitVec.getLsbD_shiftLeft, BitVec.getLsbD_ofNat]
  by_cases h1 : 8 * k ≤ i
  · have h2 : i - 8 * k < 32 := by omega
    simp [h, h1, h2]
  · simp [h, h1]
theorem bsk_hi (k : Nat) (x : UInt8) (hk : k < 3) : bsk 8 (hi (k + 1) x) = hi k x := by
  rw [bsk_shift]
  · apply BitVec.eq_of_getLsbD_eq
    intro i hi'
    rw [BitVec.getLsbD_ushiftRight, hi_bit _ _ _ hi']
    by_cases h : 8 + i < 32
    · rw [hi_bit _ _ _ h]
      congr 1
      · simp; omega
      · congr 1; omega
    · rw [BitVec.getLsbD_of_ge _ _ (by omega)]
      have : x.toNat.testBit (i - 8 * k) = false := Nat.testBit_lt_two_pow (by
        have := x.toNat_lt
        calc x.toNat < 2 ^ 8 := by omega
          _ ≤ 2 ^ (i - 8 * k) := Nat.pow_le_pow_right (by omega) (by omega))
      simp [this]
  · intro i hi'
    rw [hi_bit _ _ _ (by omega)]
    simp
    omega
/-- Four bytes as a number, the lowest first. -/
def four (a b c d : UInt8) : B32 := hi 0 a ^^^ (hi 1 b ^^^ (hi 2 c ^^^ hi 3 d))
theorem hi_zero (x : UInt8) : hi 0 x = BitVec.ofNat 32 x.toNat := by simp [hi]
theorem bsk32 (n : B32) : bsk 32 n = bsk 8 (bsk 8 (bsk 8 (bsk 8 n))) := by
  show bsk (8 + (8 + (8 + 8))) n = _
  rw [bsk_add, bsk_add, bsk_add]
theorem run_four (s : B32) (a b c d : UInt8) : run tb s [a, b, c, d] = bsk 32 (s ^^^ four a b c d) := by
  simp only [run_cons, stp_tb, ← hi_zero]
  show bsk 8 (bsk 8 (bsk 8 (bsk 8 (s ^^^ hi 0 a) ^^^ hi 0 b) ^^^ hi 0 c) ^^^ hi 0 d) = _
  rw [bsk32]
  unfold four
  congr 1
  have e3 : hi 0 d = bsk 8 (bsk 8 (bsk 8 (hi 3 d))) := by rw [bsk_hi 2 d (by omega), bsk_hi 1 d (by omega), bsk_hi 0 d (by omega)]
  have e2 : hi 0 c = bsk 8 (bsk 8 (hi 2 c)) := by rw [bsk_hi 1 c (by omega), bsk_hi 0 c (by omega)]
  have e1 : hi 0 b = bsk 8 (hi 1 b) := by rw [bsk_hi 0 b (by omega)]
  rw [e1, e2, e3]
  simp only [← bsk_xor, BitVec.xor_assoc]
theorem byte_of_bits {a b : UInt8} (h : ∀ i, i < 8 → a.toNat.testBit i = b.toNat.testBit i) : a = b := by
  apply UInt8.toNat_inj.1
  apply Nat.eq_of_testBit_eq
  intro i
  by_cases hi : i < 8
  · exact h i hi
  · have up : ∀ x : UInt8, x.toNat.testBit i = false := fun x => Nat.testBit_lt_two_pow (by
      have := x.toNat_lt
      calc x.toNat < 2 ^ 8 := by omega
        _ ≤ 2 ^ i := Nat.pow_le_pow_right (by omega) (by omega))
    rw [up, up]
theorem four_bit (a b c d : UInt8) (k i : Nat) (hk : k < 4) (hi' : i < 8) : (four a b c d).getLsbD (8 * k + i) = (if k = 0 then a else if k = 1 then b else if k = 2 then c else d).toNat.testBit i := by
  unfold four
  simp only [BitVec.getLsbD_xor]
  rw [hi_bit _ _ _ (by omega), hi_bit _ _ _ (by omega), hi_bit _ _ _ (by omega), hi_bit _ _ _ (by omega)]
  have up : ∀ (x : UInt8) (j : Nat), 8 ≤ j → x.toNat.testBit j = false := fun x j hj => Nat.testBit_lt_two_pow (by
    have := x.toNat_lt
    calc x.toNat < 2 ^ 8 := by omega
      _ ≤ 2 ^ j := Nat.pow_le_pow_right (by omega) hj)
  have : k = 0 ∨ k = 1 ∨ k = 2 ∨ k = 3 := by omega
  rcases this with rfl | rfl | rfl | rfl
  · simp [show ¬ 8 ≤ i by omega, show ¬ 16 ≤ i by omega, show ¬ 24 ≤ i by omega]
  · simp [show ¬ 16 ≤ 8 + i by omega, show ¬ 24 ≤ 8 + i by omega, up a (8 + i) (by omega)]
  · simp [show ¬ 24 ≤ 16 + i by omega, up a (16 + i) (by omega), up b (16 + i - 8) (by omega), show 8 ≤ 16 + i by omega]
  · simp [up a (24 + i) (by omega), up b (24 + i - 8) (by omega), up c (24 + i - 16) (by omega), show 8 ≤ 24 + i by omega, show 16 ≤ 24 + i by omega]
theorem four_zero {a b c d : UInt8} (h : four a b c d = 0#32) : a = 0 ∧ b = 0 ∧ c = 0 ∧ d = 0 := by
  have hb : ∀ k i, k < 4 → i < 8 → (if k = 0 then a else if k = 1 then b else if k = 2 then c else d).toNat.testBit i = false := by
    intro k i hk hi'
    rw [← four_bit a b c d k i hk hi', h]
    simp
  refine ⟨byte_of_bits fun i hi' => ?_, byte_of_bits fun i hi' => ?_, byte_of_bits fun i hi' => ?_, byte_of_bits fun i hi' => ?_⟩
  · simpa using hb 0 i (by omega) hi'
  · simpa using hb 1 i (by omega) hi'
  · simpa using hb 2 i (by omega) hi'
  · simpa using hb 3 i (by omega) hi'
theorem hi_xor (k : Nat) (a b : UInt8) : hi k (a ^^^ b) = hi k a ^^^ hi k b := by
  apply BitVec.eq_of_getLsbD_eq
  intro i hi'
  rw [BitVec.getLsbD_xor, hi_bit _ _ _ hi', hi_bit _ _ _ hi', hi_bit _ _ _ hi', UInt8.toNat_xor, Nat.testBit_xor]
  cases decide (8 * k ≤ i) <;> simp
theorem four_xor (a b c d a' b' c' d' : UInt8) : four (a ^^^ a') (b ^^^ b') (c ^^^ c') (d ^^^ d') = four a b c d ^^^ four a' b' c' d' := by
  unfold four
  simp only [hi_xor]
  rw [xor4 (hi 2 c) (hi 2 c') (hi 3 d) (hi 3 d'), xor4 (hi 1 b) (hi 1 b'), xor4 (hi 0 a) (hi 0 a')]

theorem not_inj {a b : B32} (h : ~~~ a = ~~~ b) : a = b := by
  have := congrArg (fun x : B32 => ~~~ x) h
  simpa only [BitVec.not_not] using this

/-- THE STAGE's THEOREM in plain words: up to four bytes side by side that are turned turn the sum. -/
theorem sm_turns (p q : List UInt8) (a b c d a' b' c' d' : UInt8) (h : ¬ (a' = 0 ∧ b' = 0 ∧ c' = 0 ∧ d' = 0)) :
    sm (p ++ [a ^^^ a', b ^^^ b', c ^^^ c', d ^^^ d'] ++ q) ≠ sm (p ++ [a, b, c, d] ++ q) := by
  intro e
  have e1 := not_inj (show ~~~ (run tb ones (p ++ [a ^^^ a', b ^^^ b', c ^^^ c', d ^^^ d'] ++ q)) = ~~~ (run tb ones (p ++ [a, b, c, d] ++ q)) from e)
  clear e
  rw [run_append, run_append, run_append tb _ (p ++ [a, b, c, d]), run_append tb _ p [a, b, c, d]] at e1
  have e2 := run_inj q e1
  rw [run_four, run_four, four_xor, ← BitVec.xor_assoc] at e2
  rw [bsk_xor 32 _ (four a' b' c' d')] at e2
  have e3 : bsk 32 (four a' b' c' d') = 0#32 := by
    have := congrArg (bsk 32 (run tb ones p ^^^ four a b c d) ^^^ ·) e2
    simpa [← BitVec.xor_assoc] using this
  exact h (four_zero (bsk_eq_zero 32 _ e3))

/-- The k-th byte of a number. -/
def byteOf (v : B32) (k : Nat) : UInt8 := UInt8.ofNat (v.toNat / 256 ^ k % 256)
theorem byteOf_bit (v : B32) (k i : Nat) (hi' : i < 8) : (byteOf v k).toNat.testBit i = v.getLsbD (8 * k + i) := by
  unfold byteOf
  have h1 : (UInt8.ofNat (v.toNat / 256 ^ k % 256)).toNat = v.toNat / 256 ^ k % 2 ^ 8 := by
    rw [UInt8.toNat_ofNat']
    omega
  rw [h1, Nat.testBit_mod_two_pow]
  simp only [hi', decide_true, Bool.true_and]
  rw [show (256 : Nat) = 2 ^ 8 from rfl, ← Nat.pow_mul, Nat.testBit_div_two_pow, ← BitVec.testBit_toNat]
  congr 1
  omega
theorem four_bytes (v : B32) : four (byteOf v 0) (byteOf v 1) (byteOf v 2) (byteOf v 3) = v := by
  apply BitVec.eq_of_getLsbD_eq
  intro i hi'
  have := four_bit (byteOf v 0) (byteOf v 1) (byteOf v 2) (byteOf v 3) (i / 8) (i % 8) (by omega) (by omega)
  rw [show 8 * (i / 8) + i % 8 = i by omega] at this
  rw [this]
  have hk : i / 8 = 0 ∨ i / 8 = 1 ∨ i / 8 = 2 ∨ i / 8 = 3 := by omega
  rcases hk with h | h | h | h
  · rw [h, if_pos rfl, byteOf_bit _ _ _ (by omega)]; congr 1; omega
  · rw [h, if_neg (by decide), if_pos rfl, byteOf_bit _ _ _ (by omega)]; congr 1; omega
  · rw [h, if_neg (by decide), if_neg (by decide), if_pos rfl, byteOf_bit _ _ _ (by omega)]; congr 1; omega
  · rw [h, if_neg (by decide), if_neg (by decide), if_neg (by decide), byteOf_bit _ _ _ (by omega)]; congr 1; omega
theorem sm_self (l : List UInt8) : sm (l ++ [byteOf (sm l) 0, byteOf (sm l) 1, byteOf (sm l) 2, byteOf (sm l) 3]) = 0x2144df1c#32 := by
  unfold sm smT
  rw [run_append, run_four, four_bytes]
  have : run tb ones l ^^^ ~~~run tb ones l = ones := by
    apply BitVec.eq_of_getLsbD_eq
    intro i hi'
    have ho : ones.getLsbD i = true := by
      rw [show ones = ~~~ 0#32 by decide, BitVec.getLsbD_not, BitVec.getLsbD_zero]
      simp [hi']
    simp only [BitVec.getLsbD_xor, BitVec.getLsbD_not, hi', decide_true, Bool.true_and, ho]
    cases (run tb ones l).getLsbD i <;> rfl
  rw [this]
  decide +kernel

def xor3 : List UInt8 → List UInt8 → List UInt8 → List UInt8
  | a :: x, b :: y, c :: z => (a ^^^ b ^^^ c) :: xor3 x y z
  | _, _, _ => []
theorem stp_three (s t u : B32) (a b c : UInt8) : stp tb (s ^^^ t ^^^ u) (a ^^^ b ^^^ c) = stp tb s a ^^^ stp tb t b ^^^ stp tb u c := by
  simp only [stp_tb, ← hi_zero, hi_xor, ← bsk_xor]
  congr 1
  rw [xor4 (s ^^^ t) u, xor4 s t]
theorem run_three : ∀ (x y z : List UInt8) (s t u : B32), x.length = y.length → y.length = z.length → run tb (s ^^^ t ^^^ u) (xor3 x y z) = run tb s x ^^^ run tb t y ^^^ run tb u z
  | [], [], [], s, t, u, _, _ => rfl
  | a :: x, b :: y, c :: z, s, t, u, h1, h2 => by
    simp only [xor3, run_cons]
    rw [stp_three]
    exact run_three x y z _ _ _ (by simpa using h1) (by simpa using h2)
theorem sm_three (x y z : List UInt8) (h1 : x.length = y.length) (h2 : y.length = z.length) : sm (xor3 x y z) = sm x ^^^ sm y ^^^ sm z := by
  unfold sm smT
  have h := run_three x y z ones ones ones h1 h2
  rw [show ones ^^^ ones ^^^ ones = ones by decide] at h
  rw [h]
  apply BitVec.eq_of_getLsbD_eq
  intro i hi'
  simp only [BitVec.getLsbD_not, BitVec.getLsbD_xor, hi', decide_true, Bool.true_and]
  cases (run tb ones x).getLsbD i <;> cases (run tb ones y).getLsbD i <;> cases (run tb ones z).getLsbD i <;> rfl

theorem tb_xor (a b : B32) : tb (a ^^^ b) = tb a ^^^ tb b := bsk_xor 8 a b
theorem tb_inj {a b : B32} (h : tb a = tb b) : a = b := by
  have : tb (a ^^^ b) = 0#32 := by rw [tb_xor, h]; simp
  exact eq_of_xor (bsk_eq_zero 8 _ this)
end Go.Proofs.Ytmekoenmaiekfaa
