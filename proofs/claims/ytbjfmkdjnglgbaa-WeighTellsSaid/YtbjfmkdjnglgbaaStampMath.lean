/-
  Differences of whole numbers as float64, and how they stand to zero. No program in sight. Condition: below 2^53.
-/
import Derived.Test.YtbjfmkdjnglgbaaFloat
namespace Go.Proofs.Ytbjfmkdjnglgbaa
open Ieee

/-- The word of a difference of two whole numbers. -/
def dfv (a b : Nat) : Nat := if b ≤ a then fv (a - b) else double.word true (rungOf (b - a))

theorem diff_scale (a b s t : Nat) : ∃ r : Nat, Datum.sum (.number false (a * 2 ^ s) (-(s : Int))) (Datum.opposite (.number false (b * 2 ^ t) (-(t : Int)))) = some (if b ≤ a then .number false ((a - b) * 2 ^ r) (-(r : Int)) else .number true ((b - a) * 2 ^ r) (-(r : Int))) := by
  refine ⟨max s t, ?_⟩
  have hb : min (-(s : Int)) (-(t : Int)) = -((max s t : Nat) : Int) := by omega
  have e1 : (-(s : Int) - -((max s t : Nat) : Int)).toNat = max s t - s := by omega
  have e2 : (-(t : Int) - -((max s t : Nat) : Int)).toNat = max s t - t := by omega
  have k1 : a * 2 ^ s * 2 ^ (max s t - s) = a * 2 ^ (max s t) := by rw [Nat.mul_assoc, ← Nat.pow_add]; congr 2; omega
  have k2 : b * 2 ^ t * 2 ^ (max s t - t) = b * 2 ^ (max s t) := by rw [Nat.mul_assoc, ← Nat.pow_add]; congr 2; omega
  have tot : signed false (a * 2 ^ s) (max s t - s) + signed (!false) (b * 2 ^ t) (max s t - t) = ((a * 2 ^ (max s t) : Nat) : Int) - ((b * 2 ^ (max s t) : Nat) : Int) := by
    unfold signed
    rw [Nat.shiftLeft_eq, Nat.shiftLeft_eq, k1, k2]
    simp
    omega
  unfold Datum.opposite Datum.sum
  simp only [hb, e1, e2, tot]
  have hp := Nat.two_pow_pos (max s t)
  by_cases h : b ≤ a
  · have hm : b * 2 ^ (max s t) ≤ a * 2 ^ (max s t) := Nat.mul_le_mul_right _ h
    have hx : ((a * 2 ^ (max s t) : Nat) : Int) - ((b * 2 ^ (max s t) : Nat) : Int) = (((a - b) * 2 ^ (max s t) : Nat) : Int) := by rw [Nat.sub_mul]; omega
    rw [hx, if_pos h]
    generalize (a - b) * 2 ^ (max s t) = x
    have hn : decide ((x : Int) < 0) = false := by simp
    rw [hn, Int.natAbs_natCast]
    split <;> rfl
  · have hm : a * 2 ^ (max s t) < b * 2 ^ (max s t) := Nat.mul_lt_mul_of_pos_right (by omega) hp
    have hx : ((a * 2 ^ (max s t) : Nat) : Int) - ((b * 2 ^ (max s t) : Nat) : Int) = -(((b - a) * 2 ^ (max s t) : Nat) : Int) := by rw [Nat.sub_mul]; omega
    have hpos : 0 < (b - a) * 2 ^ (max s t) := Nat.mul_pos (by omega) hp
    rw [hx, if_neg h]
    generalize (b - a) * 2 ^ (max s t) = x at hpos
    have hn : decide (-(x : Int) < 0) = true := by simp; omega
    rw [hn, Int.natAbs_neg, Int.natAbs_natCast, if_neg (by omega)]

theorem sub_fv (a b : Nat) (ha : a < 2 ^ 53) (hb : b < 2 ^ 53) : floatBits .sub .f64 (fv a) (fv b) = some (dfv a b) := by
  obtain ⟨s, hs⟩ := read_fv a ha
  obtain ⟨t, ht⟩ := read_fv b hb
  show double.sub (fv a) (fv b) = _
  unfold Format.sub
  rw [hs, ht]
  obtain ⟨r, hr⟩ := diff_scale a b s t
  rw [hr]
  unfold dfv
  by_cases h : b ≤ a
  · rw [if_pos h, if_pos h]
    exact congrArg some (write_scale (a - b) r (by omega))
  · rw [if_neg h, if_neg h]
    exact congrArg some (nearest_scale true (b - a) r (by omega) (by omega))

theorem order_pos (m : Nat) (i j : Int) (h : 0 < m) : Datum.order (.number false m i) (.number false 0 j) = some .gt := by
  unfold Datum.order signed
  simp only [Bool.false_eq_true, if_false, Nat.shiftLeft_eq]
  have : 0 < m * 2 ^ (i - min i j).toNat := Nat.mul_pos h (Nat.two_pow_pos _)
  generalize m * 2 ^ (i - min i j).toNat = x at this
  congr 1
  simp only [compare, compareOfLessAndEq]
  rw [if_neg (by omega), if_neg (by omega)]
theorem order_zero (i j : Int) : Datum.order (.number false 0 i) (.number false 0 j) = some .eq := by
  unfold Datum.order signed
  simp only [Bool.false_eq_true, if_false, Nat.zero_shiftLeft]
  rfl
theorem order_neg (m : Nat) (i j : Int) (h : 0 < m) : Datum.order (.number true m i) (.number false 0 j) = some .lt := by
  unfold Datum.order signed
  simp only [Bool.false_eq_true, if_false, if_true, Nat.shiftLeft_eq]
  have : 0 < m * 2 ^ (i - min i j).toNat := Nat.mul_pos h (Nat.two_pow_pos _)
  generalize m * 2 ^ (i - min i j).toNat = x at this
  congr 1
  simp only [compare, compareOfLessAndEq]
  rw [if_pos (by omega)]
theorem dfv_gt (a b : Nat) (ha : a < 2 ^ 53) (h : b < a) : FloatKind.f64.format.order (dfv a b) 0 = some .gt := by
  show (double.read (dfv a b)).order (double.read 0) = _
  unfold dfv
  rw [if_pos (by omega), read_zero]
  obtain ⟨s, hs⟩ := read_fv (a - b) (by omega)
  rw [hs]
  exact order_pos _ _ _ (Nat.mul_pos (by omega) (Nat.two_pow_pos _))
theorem dfv_eq (a : Nat) : FloatKind.f64.format.order (dfv a a) 0 = some .eq := by
  show (double.read (dfv a a)).order (double.read 0) = _
  unfold dfv
  rw [if_pos (Nat.le_refl _), Nat.sub_self, fv_zero, read_zero]
  exact order_zero _ _
theorem dfv_lt (a b : Nat) (hb : b < 2 ^ 53) (h : a < b) : FloatKind.f64.format.order (dfv a b) 0 = some .lt := by
  show (double.read (dfv a b)).order (double.read 0) = _
  unfold dfv
  rw [if_neg (by omega), read_zero, read_word true (b - a) (by omega) (by omega)]
  exact order_neg _ _ _ (Nat.mul_pos (by omega) (Nat.two_pow_pos _))

theorem sub_pair (a b c d : Nat) (ha : a < 2 ^ 53) (hb : b < 2 ^ 53) (hc : c < 2 ^ 53) (hd : d < 2 ^ 53) : cSumBits .sub .f64 (fv a) (fv b) (fv c) (fv d) = some (dfv a c, dfv b d) := by
  unfold cSumBits
  rw [sub_fv a c ha hc, sub_fv b d hb hd]
  rfl
end Go.Proofs.Ytbjfmkdjnglgbaa
