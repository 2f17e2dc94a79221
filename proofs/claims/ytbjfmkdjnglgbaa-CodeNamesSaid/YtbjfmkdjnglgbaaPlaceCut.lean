/-
  A place's first stamps, as a place: each made of the one ahead by one stamp more. No condition.
-/
import Derived.Test.YtbjfmkdjnglgbaaPlaceChildMath
namespace Go.Proofs.Ytbjfmkdjnglgbaa

/-- The first k stamps, as a place. -/
def Cut (p : List Rn) (k : Nat) (q : List Rn) : Prop := (k = 0 ∧ q = []) ∨ ∃ a x j b, p = a ++ x :: b ∧ q = a ++ [(x.1, x.2.1, j)] ∧ 1 ≤ j ∧ j ≤ x.2.2 ∧ (k : Int) = long a + j
theorem long_nonneg {p : List Rn} (h : ∀ x ∈ p, 0 ≤ x.2.2) : 0 ≤ long p := by
  rw [← allR_long h]
  omega
theorem cut_get {a b : List Rn} {x : Rn} {j : Int} {k : Nat} (h : ∀ y ∈ a ++ x :: b, 0 ≤ y.2.2) (h0 : 0 ≤ j) (h1 : j < x.2.2) (hk : (k : Int) = long a + j) : (allR (a ++ x :: b))[k]? = some (x.1 + j, x.2.1) := by
  have ha := allR_long (p := a) (fun y hy => h y (List.mem_append_left _ hy))
  rw [allR_append, allR_cons, List.getElem?_append_right (by omega), List.getElem?_append_left (by rw [ofR_len]; omega)]
  have e : ((k - (allR a).length : Nat) : Int) = j := by omega
  unfold ofR
  rw [List.getElem?_map, List.getElem?_range (by omega)]
  simp only [Option.map_some, e]
theorem mid_step {a b : List Rn} {x y : Rn} (h : chainR (a ++ x :: y :: b)) : stepR x y := (chainR_append h).2.2.2.1
theorem cut_chain {a b : List Rn} {x : Rn} {j : Int} (h : chainR (a ++ x :: b)) (h0 : 1 ≤ j) (h1 : j ≤ x.2.2) : chainR (a ++ [(x.1, x.2.1, j)]) := by
  have h2 : chainR ((a ++ [x]) ++ b) := by rw [List.append_assoc]; exact h
  have h3 := (chainR_append h2).1
  obtain ⟨o1, o2, o3, o4, o5, o6⟩ := chainR_mem h3 x (by simp)
  have ho : oneR (x.1, x.2.1, j) := ⟨o1, o2, o3, h0, by simp only; omega, by simp only; omega⟩
  by_cases ha : a = []
  · subst ha
    exact (chainR_one _).2 ho
  · rw [chainR_snoc ha] at h3 ⊢
    exact ⟨h3.1, ho, h3.2.2⟩
theorem cut_may {p q : List Rn} {k : Nat} (hp : mayR p) (h : Cut p k q) : anyR q := by
  rcases h with ⟨_, rfl⟩ | ⟨a, x, j, b, rfl, rfl, h0, h1, hk⟩
  · exact .inl rfl
  · right
    obtain ⟨p1, p2, p3, p4⟩ := hp
    have hn : ∀ y ∈ a ++ x :: b, 0 ≤ y.2.2 := fun y hy => by have := (chainR_mem p3 y hy).2.2.2.1; omega
    have hb := long_nonneg (p := b) (fun y hy => hn y (by simp [hy]))
    rw [long_append, long_cons] at p4
    simp only [List.length_append, List.length_cons] at p1 p2
    refine ⟨by simp, by simp only [List.length_append, List.length_cons, List.length_nil]; omega, cut_chain p3 h0 h1, ?_⟩
    rw [long_snoc]
    simp only
    omega
theorem cut_more {p q : List Rn} {k : Nat} {t r : Int} (hp : mayR p) (h : Cut p k q) (hg : (allR p)[k]? = some (t, r)) : Cut p (k + 1) (moreR q t r) ∧ mayI t r ∧ (lastR q).1 < t ∧ (k ≠ 0 → (allR p)[k - 1]? = some (lastR q)) := by
  have hc := hp.2.2.1
  have hq := cut_may hp h
  have hn : ∀ y ∈ p, 0 ≤ y.2.2 := fun y hy => by have := (chainR_mem hc y hy).2.2.2.1; omega
  rcases h with ⟨rfl, rfl⟩ | ⟨a, x, j, b, rfl, rfl, h0, h1, hk⟩
  · cases p with
    | nil => simp [allR] at hg
    | cons x b =>
      obtain ⟨o1, o2, o3, o4, o5, o6⟩ := hc.1
      have g := cut_get (a := []) (b := b) (x := x) (j := 0) (k := 0) hn (by omega) (by omega) (by simp [long])
      rw [List.nil_append, hg, Option.some.injEq, Prod.mk.injEq] at g
      obtain ⟨rfl, rfl⟩ := g
      have e : moreR [] (x.1 + 0) x.2.1 = [] ++ [(x.1 + 0, x.2.1, 1)] := if_neg (fun h => h.1 rfl)
      refine ⟨.inr ⟨[], x, 1, b, rfl, ?_, by omega, o4, by simp [long]⟩, ⟨by omega, by omega, o3⟩, ?_, fun h => absurd rfl h⟩
      · rw [e, Int.add_zero]
      · have : lastR [] = (0, 0) := lastR_no (fun h => by have := h.1; simp at this)
        rw [this]
        simp only
        omega
  · have hm := hq.resolve_left (by simp)
    obtain ⟨o1, o2, o3, o4, o5, o6⟩ := chainR_mem hc x (by simp)
    have hl := lastR_snoc a (x.1, x.2.1, j) hm
    have hk1 : ((k - 1 : Nat) : Int) = long a + (j - 1) := by
      have := long_nonneg (p := a) (fun y hy => hn y (by simp [hy]))
      omega
    have hprev := cut_get (a := a) (b := b) (x := x) (j := j - 1) (k := k - 1) hn (by omega) (by omega) hk1
    have hlr : (allR (a ++ x :: b))[k - 1]? = some (lastR (a ++ [(x.1, x.2.1, j)])) := by
      rw [hprev, hl]
      unfold rend
      simp only [Option.some.injEq, Prod.mk.injEq, and_true]
      omega
    by_cases hj : j < x.2.2
    · have g := cut_get (a := a) (b := b) (x := x) (j := j) (k := k) hn (by omega) hj hk
      rw [hg, Option.some.injEq, Prod.mk.injEq] at g
      obtain ⟨rfl, rfl⟩ := g
      have hgo : goesOn (a ++ [(x.1, x.2.1, j)]) (x.1 + j) x.2.1 := by
        unfold goesOn
        rw [hl]
        unfold rend
        simp only
        exact ⟨by simp, trivial, by omega⟩
      have e : moreR (a ++ [(x.1, x.2.1, j)]) (x.1 + j) x.2.1 = a ++ [(x.1, x.2.1, j + 1)] := by
        have : moreR (a ++ [(x.1, x.2.1, j)]) (x.1 + j) x.2.1 = (a ++ [(x.1, x.2.1, j)]).dropLast ++ [bump ((a ++ [(x.1, x.2.1, j)]).getLastD (0, 0, 0))] := if_pos hgo
        rw [this]
        simp [bump]
      refine ⟨.inr ⟨a, x, j + 1, b, rfl, e, by omega, by omega, by omega⟩, ⟨by omega, by omega, o3⟩, ?_, fun _ => hlr⟩
      rw [hl]
      unfold rend
      simp only
      omega
    · have hjx : j = x.2.2 := by omega
      subst hjx
      cases b with
      | nil =>
        have hlen := allR_long (p := a ++ [x]) hn
        rw [long_snoc] at hlen
        have := (List.getElem?_eq_some_iff.1 hg).1
        omega
      | cons y b =>
        have hst := mid_step hc
        obtain ⟨s1, s2, s3, s4, s5, s6⟩ := chainR_mem hc y (by simp)
        have ep : a ++ x :: y :: b = (a ++ [x]) ++ y :: b := by simp
        have g := cut_get (a := a ++ [x]) (b := b) (x := y) (j := 0) (k := k) (by rw [← ep]; exact hn) (by omega) (by omega) (by rw [long_snoc]; omega)
        rw [← ep, hg, Option.some.injEq, Prod.mk.injEq] at g
        obtain ⟨rfl, rfl⟩ := g
        have hng : ¬ goesOn (a ++ [(x.1, x.2.1, x.2.2)]) (y.1 + 0) y.2.1 := by
          unfold goesOn
          rw [hl]
          unfold rend
          simp only
          rintro ⟨-, u1, u2⟩
          exact hst.2 ⟨u1, by omega⟩
        have e : moreR (a ++ [(x.1, x.2.1, x.2.2)]) (y.1 + 0) y.2.1 = (a ++ [x]) ++ [(y.1, y.2.1, 1)] := by
          have : moreR (a ++ [(x.1, x.2.1, x.2.2)]) (y.1 + 0) y.2.1 = (a ++ [(x.1, x.2.1, x.2.2)]) ++ [(y.1 + 0, y.2.1, 1)] := if_neg hng
          rw [this, Int.add_zero]
        refine ⟨.inr ⟨a ++ [x], y, 1, b, ep, e, by omega, s4, by rw [long_snoc]; omega⟩, ⟨by omega, by omega, s3⟩, ?_, fun _ => hlr⟩
        rw [hl]
        unfold rend
        simp only
        have := hst.1
        omega
theorem cut_step {p q : List Rn} {k : Nat} {t r : Int} (hp : mayR p) (h : Cut p k q) (hg : (allR p)[k]? = some (t, r)) : underR q t r = (moreR q t r, 0) ∧ Cut p (k + 1) (moreR q t r) := by
  obtain ⟨h1, h2, h3, -⟩ := cut_more hp h hg
  have hq := cut_may hp h
  have hm := (cut_may hp h1).resolve_left (by unfold moreR; split <;> simp)
  refine ⟨?_, h1⟩
  unfold underR
  rw [if_neg (fun g => g ⟨hq, h2⟩), if_neg (by omega), if_pos hm]
theorem cut_last {p q : List Rn} {k : Nat} (hp : mayR p) (h : Cut p k q) (h0 : k ≠ 0) : (allR p)[k - 1]? = some (lastR q) := by
  have hc := hp.2.2.1
  have hq := cut_may hp h
  have hn : ∀ y ∈ p, 0 ≤ y.2.2 := fun y hy => by have := (chainR_mem hc y hy).2.2.2.1; omega
  rcases h with ⟨rfl, rfl⟩ | ⟨a, x, j, b, rfl, rfl, h1, h2, hk⟩
  · exact absurd rfl h0
  · have hm := hq.resolve_left (by simp)
    have hl := lastR_snoc a (x.1, x.2.1, j) hm
    have hprev := cut_get (a := a) (b := b) (x := x) (j := j - 1) (k := k - 1) hn (by omega) (by omega) (by omega)
    rw [hprev, hl]
    unfold rend
    simp only [Option.some.injEq, Prod.mk.injEq, and_true]
    omega
theorem cut_end {p q : List Rn} (hp : mayR p) (h : Cut p (allR p).length q) : p = q := by
  have hc := hp.2.2.1
  have hn : ∀ y ∈ p, 0 ≤ y.2.2 := fun y hy => by have := (chainR_mem hc y hy).2.2.2.1; omega
  have hl := allR_long hn
  rcases h with ⟨h0, rfl⟩ | ⟨a, x, j, b, rfl, rfl, h0, h1, hk⟩
  · cases p with
    | nil => rfl
    | cons x b =>
      have := hc.1.2.2.2.1
      rw [allR_cons, ofR_cons x this] at h0
      simp at h0
  · rw [hl, long_append, long_cons] at hk
    cases b with
    | nil =>
      simp [long] at hk
      have : j = x.2.2 := by
        have e : long a + x.2.2 = long a + j := by simpa [long] using hk
        omega
      rw [this]
    | cons y b =>
      have h2 := (chainR_mem hc y (by simp)).2.2.2.1
      have h3 := long_nonneg (p := b) (fun z hz => hn z (by simp [hz]))
      rw [long_cons] at hk
      omega
end Go.Proofs.Ytbjfmkdjnglgbaa
