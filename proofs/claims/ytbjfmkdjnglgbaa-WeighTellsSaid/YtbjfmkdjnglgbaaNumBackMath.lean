/-
  The plain law: what is written is read back, what is read is written as just these bytes, no beginning is a number. No program in sight; no condition beyond what each line says.
-/
import Derived.Test.YtbjfmkdjnglgbaaNumMath
namespace Go.Proofs.Ytbjfmkdjnglgbaa

theorem gg_nb (r : List UInt8) : ∀ (n k acc : Nat), acc + n * 128 ^ k ≤ 1099511627776 → k + (nb n).length ≤ 6 → (n = 0 → k = 0) → gg k acc (nb n ++ r) = some (acc + n * 128 ^ k, k + (nb n).length) := by
  intro n
  induction n using nb.induct with
  | case1 n h =>
    intro k acc hm hk h0
    rw [nb_small h] at hk ⊢
    have hb : (UInt8.ofNat n).toNat = n := by rw [UInt8.toNat_ofNat', Nat.mod_eq_of_lt (by omega)]
    have hn : n % 128 = n := Nat.mod_eq_of_lt h
    simp only [List.length_cons, List.length_nil, List.cons_append, List.nil_append] at hk ⊢
    rw [gg_good (by omega) (by omega) (by rw [hb, hn]; omega), hb, hn]
  | case2 n h ih =>
    intro k acc hm hk h0
    rw [nb_big h] at hk ⊢
    have hb : (UInt8.ofNat (n % 128 + 128)).toNat = n % 128 + 128 := by rw [UInt8.toNat_ofNat', Nat.mod_eq_of_lt (by omega)]
    have hs : 128 ^ (k + 1) = 128 ^ k * 128 := Nat.pow_succ _ _
    have hsplit : acc + (n % 128 + 128) % 128 * 128 ^ k + n / 128 * 128 ^ (k + 1) = acc + n * 128 ^ k := by
      have e1 : (n % 128 + 128) % 128 = n % 128 := by omega
      have e2 : n / 128 * 128 ^ (k + 1) = 128 * (n / 128) * 128 ^ k := by rw [hs]; simp only [Nat.mul_assoc, Nat.mul_comm, Nat.mul_left_comm]
      rw [e1, e2, Nat.add_assoc, ← Nat.add_mul]
      congr 2
      omega
    simp only [List.length_cons, List.cons_append] at hk ⊢
    rw [gg_more (by omega) (by omega), hb, ih (k + 1) _ (by rw [hsplit]; exact hm) (by omega) (by omega), hsplit]
    congr 2
    omega

theorem gget_nb (n : Nat) (r : List UInt8) (h : n ≤ 1099511627776) : gget (nb n ++ r) = some (n, (nb n).length) := by
  have := gg_nb r n 0 0 (by omega) (by have := nb_six h; omega) (fun _ => rfl)
  simpa [gget] using this

theorem gg_inv : ∀ (l : List UInt8) (k acc m s : Nat), gg k acc l = some (m, s) → ∃ n, m = acc + n * 128 ^ k ∧ m ≤ 1099511627776 ∧ k < s ∧ s - k ≤ l.length ∧ nb n = l.take (s - k) ∧ (n = 0 → k = 0)
  | [], k, acc, m, s, h => by simp [gg] at h
  | b :: r, k, acc, m, s, h => by
    have hb := b.toNat_lt
    rw [gg] at h
    by_cases h6 : k = 6
    · rw [if_pos h6] at h; cases h
    rw [if_neg h6] at h
    by_cases h128 : 128 ≤ b.toNat
    · rw [if_pos h128] at h
      obtain ⟨n1, e1, e2, e3, e4, e5, e6⟩ := gg_inv r (k + 1) _ m s h
      have hn1 : n1 ≠ 0 := fun e => by have := e6 e; omega
      have hs : 128 ^ (k + 1) = 128 ^ k * 128 := Nat.pow_succ _ _
      refine ⟨b.toNat % 128 + 128 * n1, ?_, e2, by omega, by simp; omega, ?_, by omega⟩
      · rw [e1, Nat.add_mul, ← Nat.add_assoc]
        congr 1
        rw [hs]; simp only [Nat.mul_assoc, Nat.mul_comm]
      · rw [nb_big (by omega)]
        have d1 : (b.toNat % 128 + 128 * n1) % 128 + 128 = b.toNat := by omega
        have d2 : (b.toNat % 128 + 128 * n1) / 128 = n1 := by omega
        rw [d1, d2, e5]
        obtain ⟨t, ht⟩ : ∃ t, s - k = t + 1 := ⟨s - k - 1, by omega⟩
        rw [ht, List.take_succ_cons, show s - (k + 1) = t by omega]
        simp
    · rw [if_neg h128] at h
      by_cases hbad : 1099511627776 < acc + b.toNat % 128 * 128 ^ k ∨ (b.toNat = 0 ∧ 0 < k)
      · rw [if_pos hbad] at h; cases h
      · rw [if_neg hbad] at h
        simp only [Option.some.injEq, Prod.mk.injEq] at h
        obtain ⟨rfl, rfl⟩ := h
        have hm : b.toNat % 128 = b.toNat := Nat.mod_eq_of_lt (by omega)
        rw [hm] at hbad
        refine ⟨b.toNat, by rw [hm], by rw [hm]; omega, by omega, by simp, ?_, by omega⟩
        rw [nb_small (by omega), show k + 1 - k = 1 by omega]
        simp

theorem gget_inv {l : List UInt8} {m s : Nat} (h : gget l = some (m, s)) : m ≤ 1099511627776 ∧ s ≤ l.length ∧ nb m = l.take s ∧ (nb m).length = s := by
  obtain ⟨n, e1, e2, e3, e4, e5, _⟩ := gg_inv l 0 0 m s h
  have : m = n := by simpa using e1
  subst this
  have e4' : s ≤ l.length := by simpa using e4
  refine ⟨e2, e4', by simpa using e5, ?_⟩
  rw [e5, List.length_take]
  omega

theorem gget_short (n k : Nat) (h : n ≤ 1099511627776) (hk : k < (nb n).length) : gget ((nb n).take k) = none := by
  cases hg : gget ((nb n).take k) with
  | none => rfl
  | some ms =>
    obtain ⟨m, s⟩ := ms
    obtain ⟨hm, hs, hb, hl⟩ := gget_inv hg
    have hpre : nb n = nb m ++ (nb n).drop s := by
      rw [hb, List.take_take, Nat.min_eq_left (by rw [List.length_take] at hs; omega), List.take_append_drop]
    have h1 := gget_nb n [] h
    have h2 := gget_nb m ((nb n).drop s) hm
    rw [← hpre] at h2
    rw [List.append_nil] at h1
    rw [h1] at h2
    simp only [Option.some.injEq, Prod.mk.injEq] at h2
    rw [List.length_take] at hs
    omega
end Go.Proofs.Ytbjfmkdjnglgbaa
