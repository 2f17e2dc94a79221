/-
  Exact whole numbers as float64: below 2^53 in size, sums, differences, products and comparisons are exact. No program in sight. Condition: the sizes that each line says.
-/
import Derived.Laws.ComplexArith
namespace Go.Proofs.Ytbjfmkdjnglgbaa
open Ieee

/-- The rung of a whole number. -/
def rungOf (n : Nat) : Nat := (n.log2 + 1022) * 2 ^ 52 + n * 2 ^ (52 - n.log2)
theorem log2_le52 {n : Nat} (h0 : 0 < n) (h : n < 2 ^ 53) : n.log2 ≤ 52 := by
  have := (Nat.log2_lt (by omega : n ≠ 0)).2 h
  omega
theorem log2_pow (n s : Nat) (h0 : 0 < n) : (n * 2 ^ s).log2 = n.log2 + s := by
  have hne : n * 2 ^ s ≠ 0 := Nat.mul_ne_zero (by omega) (by have := Nat.two_pow_pos s; omega)
  rw [Nat.log2_eq_iff hne]
  have h1 := (Nat.log2_eq_iff (by omega : n ≠ 0)).1 rfl
  refine ⟨?_, ?_⟩
  · rw [Nat.pow_add]; exact Nat.mul_le_mul_right _ h1.1
  · rw [show n.log2 + s + 1 = (n.log2 + 1) + s by omega, Nat.pow_add]
    exact Nat.mul_lt_mul_of_pos_right h1.2 (Nat.two_pow_pos s)
theorem frac_bounds {n : Nat} (h0 : 0 < n) (h : n < 2 ^ 53) : 2 ^ 52 ≤ n * 2 ^ (52 - n.log2) ∧ n * 2 ^ (52 - n.log2) < 2 ^ 53 := by
  have h1 := (Nat.log2_eq_iff (by omega : n ≠ 0)).1 rfl
  have hl := log2_le52 h0 h
  constructor
  · calc 2 ^ 52 = 2 ^ n.log2 * 2 ^ (52 - n.log2) := by rw [← Nat.pow_add]; congr 1; omega
      _ ≤ _ := Nat.mul_le_mul_right _ h1.1
  · calc n * 2 ^ (52 - n.log2) < 2 ^ (n.log2 + 1) * 2 ^ (52 - n.log2) := Nat.mul_lt_mul_of_pos_right h1.2 (Nat.two_pow_pos _)
      _ = 2 ^ 53 := by rw [← Nat.pow_add]; congr 1; omega

theorem rung_lt {n : Nat} (h0 : 0 < n) (h : n < 2 ^ 53) : rungOf n < 2047 * 2 ^ 52 := by
  have hl := log2_le52 h0 h
  have hfb := frac_bounds h0 h
  unfold rungOf
  have : (n.log2 + 1022) * 2 ^ 52 ≤ 1074 * 2 ^ 52 := Nat.mul_le_mul_right _ (by omega)
  omega

theorem cut_zero (neg : Bool) (n : Nat) : Toward.even.cut neg n 0 = n := by
  unfold Toward.cut
  simp [Nat.mod_one]
theorem cut_exact (neg : Bool) (n r : Nat) (hn : 0 < n) : Toward.even.cut neg (n * 2 ^ r) r = n := by
  unfold Toward.cut
  have hm : min r ((n * 2 ^ r).log2 + 2) = r := by rw [log2_pow n r hn]; omega
  rw [hm, Nat.one_shiftLeft]
  simp only [Nat.mul_mod_left, Nat.mul_div_cancel _ (Nat.two_pow_pos r)]
  have := Nat.two_pow_pos r
  have e1 : (2 ^ r < 2 * 0) = False := by simp
  have e2 : (2 ^ r == 2 * 0) = false := by simp
  simp [e2]

/-- A whole number, however it is scaled, has one word. -/
theorem nearest_scale (neg : Bool) (n s : Nat) (h0 : 0 < n) (h : n < 2 ^ 53) : double.nearest neg (n * 2 ^ s) (-(s : Int)) = double.word neg (rungOf n) := by
  have hl := log2_le52 h0 h
  have hfb := frac_bounds h0 h
  have hne : n * 2 ^ s ≠ 0 := Nat.mul_ne_zero (by omega) (by have := Nat.two_pow_pos s; omega)
  have hlp : double.leastPlace = -1074 := by decide
  have hlast : max (-(s : Int) + ((n * 2 ^ s).log2 : Nat) - (double.fractionBits : Nat)) (-1074) = (n.log2 : Int) - 52 := by
    rw [log2_pow n s h0]
    have : (double.fractionBits : Nat) = 52 := rfl
    rw [this]
    omega
  unfold Format.nearest
  rw [if_neg hne]
  simp only [hlp]
  rw [hlast]
  have hkept : Toward.even.cut neg ((n * 2 ^ s) <<< (-(s : Int) - ((n.log2 : Int) - 52)).toNat) (((n.log2 : Int) - 52) - -(s : Int)).toNat = n * 2 ^ (52 - n.log2) := by
    by_cases hs : s ≤ 52 - n.log2
    · have e1 : (-(s : Int) - ((n.log2 : Int) - 52)).toNat = 52 - n.log2 - s := by omega
      have e2 : (((n.log2 : Int) - 52) - -(s : Int)).toNat = 0 := by omega
      rw [e1, e2, cut_zero, Nat.shiftLeft_eq, Nat.mul_assoc, ← Nat.pow_add]
      congr 2
      omega
    · have e1 : (-(s : Int) - ((n.log2 : Int) - 52)).toNat = 0 := by omega
      obtain ⟨r, hr⟩ : ∃ r, s = (52 - n.log2) + r := ⟨s - (52 - n.log2), by omega⟩
      have e2 : (((n.log2 : Int) - 52) - -(s : Int)).toNat = r := by omega
      rw [e1, e2, Nat.shiftLeft_zero, hr, Nat.pow_add, ← Nat.mul_assoc]
      exact cut_exact neg _ r (by omega)
  rw [hkept]
  have ei : ((n.log2 : Int) - 52 - -1074).toNat = n.log2 + 1022 := by omega
  have hinf : double.infRung = 2047 * 2 ^ 52 := by decide
  have hbin : double.binade = 2 ^ 52 := by decide
  have hmin : min ((n.log2 + 1022) * 2 ^ 52 + n * 2 ^ (52 - n.log2)) (2047 * 2 ^ 52) = rungOf n := by
    show min (rungOf n) (2047 * 2 ^ 52) = rungOf n
    exact Nat.min_eq_left (Nat.le_of_lt (rung_lt h0 h))
  rw [ei, hinf, hbin, hmin]

/-- What the word of a whole number stands for. -/
theorem read_word (neg : Bool) (n : Nat) (h0 : 0 < n) (h : n < 2 ^ 53) : double.read (double.word neg (rungOf n)) = .number neg (n * 2 ^ (52 - n.log2)) ((n.log2 : Int) - 52) := by
  have hl := log2_le52 h0 h
  have hfb := frac_bounds h0 h
  have hinf : double.infRung = 2047 * 2 ^ 52 := by decide
  have hbin : double.binade = 2 ^ 52 := by decide
  have hsw : double.signWeight = 2 ^ 63 := by decide
  have hlp : double.leastPlace = -1074 := by decide
  have hr1 := rung_lt h0 h
  have hr2 : 2 ^ 52 ≤ rungOf n := by unfold rungOf; omega
  have hdiv : rungOf n / 2 ^ 52 = n.log2 + 1023 := by unfold rungOf; omega
  have hmod : rungOf n % 2 ^ 52 = n * 2 ^ (52 - n.log2) - 2 ^ 52 := by unfold rungOf; omega
  have hw : double.word neg (rungOf n) % 2 ^ 63 = rungOf n := by
    unfold Format.word
    rw [hsw]
    cases neg
    · simp only [Bool.false_eq_true, if_false]; exact Nat.mod_eq_of_lt (by omega)
    · simp only [if_true]; rw [Nat.add_mod_left]; exact Nat.mod_eq_of_lt (by omega)
  have hneg : (double.word neg (rungOf n) / 2 ^ 63 % 2 == 1) = neg := by
    unfold Format.word
    rw [hsw]
    cases neg
    · simp only [Bool.false_eq_true, if_false]
      have : rungOf n / 2 ^ 63 = 0 := Nat.div_eq_of_lt (by omega)
      rw [this]; rfl
    · simp only [if_true]
      have : (2 ^ 63 + rungOf n) / 2 ^ 63 = 1 := by omega
      rw [this]; rfl
  unfold Format.read
  simp only [hsw, hw, hneg, hbin, hinf, hlp]
  rw [if_neg (by omega), if_pos hr1, hdiv, hmod]
  have a : 2 ^ 52 + (n * 2 ^ (52 - n.log2) - 2 ^ 52) = n * 2 ^ (52 - n.log2) := by omega
  have b : (-1074 : Int) + ((n.log2 + 1023 - 1 : Nat) : Int) = (n.log2 : Int) - 52 := by omega
  rw [a, b]

/-- A whole number's word. -/
def fv (n : Nat) : Nat := floatOfInt .f64 (n : Int)
theorem fv_zero : fv 0 = 0 := by decide +kernel
theorem fv_eq (n : Nat) (h0 : 0 < n) (h : n < 2 ^ 53) : fv n = double.word false (rungOf n) := by
  have := nearest_scale false n 0 h0 h
  simp only [Nat.pow_zero, Nat.mul_one, Int.ofNat_zero, Int.neg_zero] at this
  rw [← this]
  have hn : decide ((n : Int) < 0) = false := by simp
  show double.write (.number (decide ((n : Int) < 0)) (n : Int).natAbs 0) = _
  rw [hn, Int.natAbs_natCast]
  rfl
theorem read_zero : double.read 0 = .number false 0 (-1074) := by decide +kernel
/-- What it stands for, zero or not: the number is its magnitude, scaled. -/
theorem read_fv (n : Nat) (h : n < 2 ^ 53) : ∃ s : Nat, double.read (fv n) = .number false (n * 2 ^ s) (-(s : Int)) := by
  rcases Nat.eq_zero_or_pos n with rfl | h0
  · obtain ⟨s, hs⟩ : ∃ s : Nat, s = 1074 := ⟨_, rfl⟩
    exact ⟨s, by rw [fv_zero, read_zero, Nat.zero_mul, hs]; rfl⟩
  · refine ⟨52 - n.log2, ?_⟩
    have hl := log2_le52 h0 h
    rw [fv_eq n h0 h, read_word false n h0 h]
    have b : (n.log2 : Int) - 52 = -((52 - n.log2 : Nat) : Int) := by omega
    rw [b]

/-- The word of what is a whole number, scaled. -/
theorem write_scale (n s : Nat) (h : n < 2 ^ 53) : double.write (.number false (n * 2 ^ s) (-(s : Int))) = fv n := by
  rcases Nat.eq_zero_or_pos n with rfl | h0
  · rw [Nat.zero_mul, fv_zero]; rfl
  · rw [fv_eq n h0 h]; exact nearest_scale false n s h0 h

theorem mul_fv (a b : Nat) (ha : a < 2 ^ 53) (hb : b < 2 ^ 53) (h : a * b < 2 ^ 53) : floatBits .mul .f64 (fv a) (fv b) = some (fv (a * b)) := by
  obtain ⟨s, hs⟩ := read_fv a ha
  obtain ⟨t, ht⟩ := read_fv b hb
  show double.mul (fv a) (fv b) = _
  unfold Format.mul
  rw [hs, ht]
  show some (double.write (.number (false ^^ false) (a * 2 ^ s * (b * 2 ^ t)) (-(s : Int) + -(t : Int)))) = _
  have e1 : a * 2 ^ s * (b * 2 ^ t) = a * b * 2 ^ (s + t) := by rw [Nat.pow_add]; simp only [Nat.mul_assoc, Nat.mul_left_comm]
  have e2 : -(s : Int) + -(t : Int) = -((s + t : Nat) : Int) := by omega
  rw [e1, e2]
  exact congrArg some (write_scale (a * b) (s + t) h)

theorem sum_scale (a b s t : Nat) : ∃ r : Nat, Datum.sum (.number false (a * 2 ^ s) (-(s : Int))) (.number false (b * 2 ^ t) (-(t : Int))) = some (.number false ((a + b) * 2 ^ r) (-(r : Int))) := by
  refine ⟨max s t, ?_⟩
  have hb : min (-(s : Int)) (-(t : Int)) = -((max s t : Nat) : Int) := by omega
  have e1 : (-(s : Int) - -((max s t : Nat) : Int)).toNat = max s t - s := by omega
  have e2 : (-(t : Int) - -((max s t : Nat) : Int)).toNat = max s t - t := by omega
  have k1 : a * 2 ^ s * 2 ^ (max s t - s) = a * 2 ^ (max s t) := by rw [Nat.mul_assoc, ← Nat.pow_add]; congr 2; omega
  have k2 : b * 2 ^ t * 2 ^ (max s t - t) = b * 2 ^ (max s t) := by rw [Nat.mul_assoc, ← Nat.pow_add]; congr 2; omega
  have tot : signed false (a * 2 ^ s) (max s t - s) + signed false (b * 2 ^ t) (max s t - t) = (((a + b) * 2 ^ (max s t) : Nat) : Int) := by
    unfold signed
    rw [Nat.shiftLeft_eq, Nat.shiftLeft_eq, k1, k2, Nat.add_mul]
    simp
  unfold Datum.sum
  simp only [hb, e1, e2, tot]
  generalize (a + b) * 2 ^ (max s t) = x
  have hn : decide ((x : Int) < 0) = false := by simp
  rw [hn, Int.natAbs_natCast]
  split <;> rfl

theorem add_fv (a b : Nat) (ha : a < 2 ^ 53) (hb : b < 2 ^ 53) (h : a + b < 2 ^ 53) : floatBits .add .f64 (fv a) (fv b) = some (fv (a + b)) := by
  obtain ⟨s, hs⟩ := read_fv a ha
  obtain ⟨t, ht⟩ := read_fv b hb
  show double.add (fv a) (fv b) = _
  unfold Format.add
  rw [hs, ht]
  obtain ⟨r, hr⟩ := sum_scale a b s t
  rw [hr]
  exact congrArg some (write_scale (a + b) r h)

theorem int_fv (n : Nat) (h : n < 2 ^ 53) : floatToIntVal .f64 (fv n) .i64 = some (n : Int) := by
  obtain ⟨s, hs⟩ := read_fv n h
  unfold floatToIntVal
  have : (FloatKind.f64.decode (fv n)).toInt .zero = some (n : Int) := by
    show (double.read (fv n)).toInt .zero = _
    rw [hs]
    unfold Datum.toInt Datum.integral
    have e1 : (-(s : Int)).toNat = 0 := by omega
    have e2 : (- -(s : Int)).toNat = s := by omega
    simp only [e1, e2, Nat.shiftLeft_zero]
    have hc : Toward.zero.cut false (n * 2 ^ s) s = n := by
      rcases Nat.eq_zero_or_pos n with rfl | h0
      · unfold Toward.cut; simp
      · unfold Toward.cut
        have hm : min s ((n * 2 ^ s).log2 + 2) = s := by rw [log2_pow n s h0]; omega
        rw [hm, Nat.one_shiftLeft]
        simp [Nat.mul_div_cancel _ (Nat.two_pow_pos s)]
    rw [hc]
    simp [signed]
  rw [this]
  have h1 : IntKind.i64.min ≤ (n : Int) ∧ (n : Int) ≤ IntKind.i64.max := by
    have e1 : IntKind.i64.min = -9223372036854775808 := by decide
    have e2 : IntKind.i64.max = 9223372036854775807 := by decide
    rw [e1, e2]
    omega
  simp only [h1, and_self, if_true]
end Go.Proofs.Ytbjfmkdjnglgbaa
