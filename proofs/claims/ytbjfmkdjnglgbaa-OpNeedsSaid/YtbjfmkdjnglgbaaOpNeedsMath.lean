/-
  What an operation stands on: older, rising, and the last one stands on all the others. No condition.
-/
import Derived.Test.YtbjfmkdjnglgbaaPlaceCut
import Derived.Test.YtbjfmkdjnglgbaaOpNeeds
namespace Go.Proofs.Ytbjfmkdjnglgbaa

theorem cut_at {p : List Rn} (hp : mayR p) : ∀ k, k ≤ (allR p).length → ∃ q, Cut p k q
  | 0, _ => ⟨[], .inl ⟨rfl, rfl⟩⟩
  | k + 1, h => by
    obtain ⟨q, hq⟩ := cut_at hp k (by omega)
    have hg : (allR p)[k]? = some ((allR p)[k].1, (allR p)[k].2) := List.getElem?_eq_getElem (by omega)
    exact ⟨_, (cut_more hp hq hg).1⟩
theorem all_step {p : List Rn} (hp : mayR p) (k : Nat) (h : k + 1 < (allR p).length) : (allR p)[k].1 < (allR p)[k + 1].1 := by
  obtain ⟨q, hq⟩ := cut_at hp (k + 1) (by omega)
  have hg : (allR p)[k + 1]? = some ((allR p)[k + 1].1, (allR p)[k + 1].2) := List.getElem?_eq_getElem (by omega)
  obtain ⟨-, -, h3, h4⟩ := cut_more hp hq hg
  have h5 := h4 (by omega)
  rw [Nat.add_sub_cancel, List.getElem?_eq_getElem (by omega)] at h5
  rw [Option.some.inj h5]
  exact h3
theorem all_mono {p : List Rn} (hp : mayR p) (i : Nat) : ∀ (d : Nat) (h : i + d < (allR p).length), (allR p)[i].1 ≤ (allR p)[i + d].1
  | 0, _ => Int.le_refl _
  | d + 1, h => Int.le_trans (all_mono hp i d (by omega)) (Int.le_of_lt (all_step hp (i + d) h))
theorem all_pos {p : List Rn} (hp : mayR p) : 1 ≤ (allR p).length := by
  obtain ⟨x, q, hxq⟩ : ∃ x q, p = x :: q := by
    cases p with
    | nil => have := hp.1; simp at this
    | cons x q => exact ⟨x, q, rfl⟩
  rw [hxq, allR_cons, List.length_append, ofR_len]
  have := (chainR_mem hp.2.2.1 x (by rw [hxq]; exact List.mem_cons_self)).2.2.2.1
  omega
theorem all_end {p : List Rn} (hp : mayR p) : (allR p)[(allR p).length - 1]? = some (lastR p) := by
  have h1 := all_pos hp
  obtain ⟨q, hq⟩ := cut_at hp (allR p).length (Nat.le_refl _)
  have := cut_last hp hq (by omega)
  rw [this, ← cut_end hp hq]
theorem cut_all {p q : List Rn} {k : Nat} (hp : mayR p) (h : Cut p k q) : allR q = (allR p).take k := by
  have hc := hp.2.2.1
  have hn : ∀ y ∈ p, 0 ≤ y.2.2 := fun y hy => by have := (chainR_mem hc y hy).2.2.2.1; omega
  rcases h with ⟨rfl, rfl⟩ | ⟨a, x, j, b, rfl, rfl, h0, h1, hk⟩
  · rfl
  · have ha := allR_long (p := a) (fun y hy => hn y (List.mem_append_left _ hy))
    obtain ⟨J, rfl⟩ : ∃ J : Nat, j = J := ⟨j.toNat, by omega⟩
    have hk' : k = (allR a).length + J := by omega
    rw [allR_append, allR_append, allR_cons, allR_cons, ofR_cut x J (by omega), hk', List.append_assoc, List.take_length_add_append, List.take_append_of_le_length (by rw [ofR_len]; simp)]
    have hl : (ofR (x.1, x.2.1, (J : Int))).length = J := by rw [ofR_len]; simp
    rw [List.take_of_length_le (by omega)]
    simp [allR]
/-- What an operation stands on, as first stamps of its place. -/
theorem needs_take {k t r : Int} {p : List Rn} {z : Int} (h : mayO k t r p z) : needsO k t r p z = (allR p).take (needsO k t r p z).length ∧ (needsO k t r p z).length ≤ (allR p).length ∧ (k = 1 ∨ k = 2 → (needsO k t r p z).length + 1 = (allR p).length) := by
  have hN : needsO k t r p z = if k = 1 ∨ k = 2 then (allR p).dropLast else allR p := if_pos h
  have := all_pos h.2.1
  rw [hN]
  split
  · rw [List.dropLast_eq_take, List.length_take]
    refine ⟨?_, by omega, fun _ => by omega⟩
    rw [Nat.min_eq_left (by omega)]
  · rename_i hk
    exact ⟨by rw [List.take_length], Nat.le_refl _, fun g => absurd g hk⟩
theorem needs_less {k t r : Int} {p : List Rn} {z : Int} (h : mayO k t r p z) (i : Nat) (hi : i < (needsO k t r p z).length) (hj : i < (allR p).length) : (allR p)[i].1 < t := by
  have hp := h.2.1
  have h1 := all_pos hp
  have he := all_end hp
  rw [List.getElem?_eq_getElem (by omega)] at he
  have hL := Option.some.inj he
  obtain ⟨-, -, h3⟩ := needs_take h
  have hm := all_mono hp i ((allR p).length - 1 - i) (by omega)
  have e : (allR p)[i + ((allR p).length - 1 - i)]'(by omega) = lastR p := by
    rw [← hL]
    congr 1
    omega
  rw [e] at hm
  rcases h.2.2 with ⟨rfl, g, -⟩ | ⟨rfl, g, -⟩ | ⟨-, -, g⟩
  · have hlen := h3 (.inl rfl)
    have hs := all_step hp ((allR p).length - 2) (by omega)
    have hm2 := all_mono hp i ((allR p).length - 2 - i) (by omega)
    have e2 : (allR p)[i + ((allR p).length - 2 - i)]'(by omega) = (allR p)[(allR p).length - 2]'(by omega) := by congr 1; omega
    have e3 : (allR p)[(allR p).length - 2 + 1]'(by omega) = lastR p := by rw [← hL]; congr 1; omega
    rw [e2] at hm2
    rw [e3, g] at hs
    exact Int.lt_of_le_of_lt hm2 hs
  · have hlen := h3 (.inr rfl)
    have hs := all_step hp ((allR p).length - 2) (by omega)
    have hm2 := all_mono hp i ((allR p).length - 2 - i) (by omega)
    have e2 : (allR p)[i + ((allR p).length - 2 - i)]'(by omega) = (allR p)[(allR p).length - 2]'(by omega) := by congr 1; omega
    have e3 : (allR p)[(allR p).length - 2 + 1]'(by omega) = lastR p := by rw [← hL]; congr 1; omega
    rw [e2] at hm2
    rw [e3, g] at hs
    exact Int.lt_of_le_of_lt hm2 hs
  · omega
/-- The first stamps begin the place. -/
theorem cut_beg {p q : List Rn} {k : Nat} (hp : mayR p) (h : Cut p k q) : begR q p = true := by
  unfold begR
  refine decide_eq_true ⟨cut_may hp h, .inr hp, ?_⟩
  rw [cut_all hp h, List.isPrefixOf_iff_prefix]
  exact List.take_prefix _ _
/-- The last one of what an operation stands on, as a mark, stands on the others. -/
theorem last_needs {k t r : Int} {p q : List Rn} {z : Int} (h : mayO k t r p z) (hq : Cut p (needsO k t r p z).length q) (h0 : (needsO k t r p z).length ≠ 0) (a b : Int) (hab : (allR p)[(needsO k t r p z).length - 1]? = some (a, b)) :
    mayO 2 a b q 0 ∧ needsO 2 a b q 0 = (needsO k t r p z).take ((needsO k t r p z).length - 1) := by
  have hp := h.2.1
  obtain ⟨h1, h2, -⟩ := needs_take h
  have hl := cut_last hp hq h0
  rw [hab] at hl
  have hl := (Option.some.inj hl).symm
  have hqm : mayR q := (cut_may hp hq).resolve_left (fun e => by
    have := cut_all hp hq
    rw [e, ← h1] at this
    have h3 : needsO k t r p z = [] := this.symm
    rw [h3] at h0
    exact h0 rfl)
  obtain ⟨q', hq'⟩ := cut_at hp ((needsO k t r p z).length - 1) (by omega)
  obtain ⟨-, hmay, -⟩ := cut_more hp hq' hab
  have hO : mayO 2 a b q 0 := ⟨hmay, hqm, .inr (.inl ⟨rfl, hl, rfl⟩)⟩
  refine ⟨hO, ?_⟩
  have hN : needsO 2 a b q 0 = (allR q).dropLast := (if_pos hO).trans (if_pos (.inr rfl))
  rw [hN, cut_all hp hq, ← h1, List.dropLast_eq_take]
end Go.Proofs.Ytbjfmkdjnglgbaa
