/-
  The plain law of numbers as bytes: groups of seven bits, the lowest first. No program in sight; no condition beyond what each line says.
-/
namespace Go.Proofs.Ytbjfmkdjnglgbaa

/-- The bytes of a number. -/
def nb (n : Nat) : List UInt8 := if n < 128 then [UInt8.ofNat n] else UInt8.ofNat (n % 128 + 128) :: nb (n / 128)
  termination_by n
  decreasing_by omega

theorem nb_small {n : Nat} (h : n < 128) : nb n = [UInt8.ofNat n] := by rw [nb, if_pos h]
theorem nb_big {n : Nat} (h : ¬ n < 128) : nb n = UInt8.ofNat (n % 128 + 128) :: nb (n / 128) := by rw [nb, if_neg h]
theorem nb_pos (n : Nat) : 0 < (nb n).length := by rw [nb]; split <;> simp
theorem nb_mono : ∀ (n m : Nat), n ≤ m → (nb n).length ≤ (nb m).length := by
  intro n
  induction n using nb.induct with
  | case1 n h => intro m _; rw [nb_small h]; exact nb_pos m
  | case2 n h ih =>
    intro m hm
    have h' : ¬ m < 128 := by omega
    rw [nb_big h, nb_big h', List.length_cons, List.length_cons]
    have := ih (m / 128) (by omega)
    omega
theorem nb_len_le (k : Nat) : ∀ n : Nat, n < 128 ^ (k + 1) → (nb n).length ≤ k + 1 := by
  induction k with
  | zero => intro n h; rw [nb_small (by simpa using h)]; simp
  | succ k ih =>
    intro n h
    by_cases h1 : n < 128
    · rw [nb_small h1]; simp
    · rw [nb_big h1, List.length_cons]
      have : n / 128 < 128 ^ (k + 1) := by
        rw [Nat.div_lt_iff_lt_mul (by omega)]
        rw [Nat.pow_succ] at h
        exact h
      have := ih _ this
      omega
theorem nb_six {n : Nat} (h : n ≤ 1099511627776) : (nb n).length ≤ 6 := nb_len_le 5 n (by omega)

/-- A number read from bytes: k read so far, of them n; none where they are none. -/
def gg (k n : Nat) : List UInt8 → Option (Nat × Nat)
  | [] => none
  | b :: r => if k = 6 then none else
    if 128 ≤ b.toNat then gg (k + 1) (n + b.toNat % 128 * 128 ^ k) r
    else if 1099511627776 < n + b.toNat % 128 * 128 ^ k ∨ (b.toNat = 0 ∧ 0 < k) then none else some (n + b.toNat % 128 * 128 ^ k, k + 1)
theorem gg_nil (k n : Nat) : gg k n [] = none := rfl
theorem gg_six (n : Nat) (l : List UInt8) : gg 6 n l = none := by cases l <;> simp [gg]
theorem gg_more {k n : Nat} {b : UInt8} {r : List UInt8} (h6 : k ≠ 6) (h : 128 ≤ b.toNat) : gg k n (b :: r) = gg (k + 1) (n + b.toNat % 128 * 128 ^ k) r := by
  rw [gg, if_neg h6, if_pos h]
theorem gg_bad {k n : Nat} {b : UInt8} {r : List UInt8} (h : b.toNat < 128) (hb : 1099511627776 < n + b.toNat % 128 * 128 ^ k ∨ (b.toNat = 0 ∧ 0 < k)) : gg k n (b :: r) = none := by
  by_cases h6 : k = 6
  · rw [gg, if_pos h6]
  · rw [gg, if_neg h6, if_neg (by omega), if_pos hb]
theorem gg_good {k n : Nat} {b : UInt8} {r : List UInt8} (h6 : k ≠ 6) (h : b.toNat < 128) (hb : ¬ (1099511627776 < n + b.toNat % 128 * 128 ^ k ∨ (b.toNat = 0 ∧ 0 < k))) : gg k n (b :: r) = some (n + b.toNat % 128 * 128 ^ k, k + 1) := by
  rw [gg, if_neg h6, if_neg (by omega), if_neg hb]
/-- What Get reads. -/
def gget (l : List UInt8) : Option (Nat × Nat) := gg 0 0 l
end Go.Proofs.Ytbjfmkdjnglgbaa
