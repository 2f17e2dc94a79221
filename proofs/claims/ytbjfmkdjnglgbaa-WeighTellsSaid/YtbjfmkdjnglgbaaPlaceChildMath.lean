/-
  A child's stamps, in plain lists. No condition.
-/
import Derived.Test.YtbjfmkdjnglgbaaPlaceOrder
import Derived.Test.YtbjfmkdjnglgbaaPlaceIds
namespace Go.Proofs.Ytbjfmkdjnglgbaa

theorem lastR_snoc (q : List Rn) (x : Rn) (h : mayR (q ++ [x])) : lastR (q ++ [x]) = (rend x, x.2.1) := by
  unfold lastR
  rw [if_pos h]
  simp
theorem allR_more {p : List Rn} {t r : Int} (ha : anyR p) : allR (moreR p t r) = allR p ++ [(t, r)] := by
  unfold moreR
  by_cases h : goesOn p t r
  · rw [if_pos h]
    obtain ⟨hne, h1, h2⟩ := h
    have hm := ha.resolve_left hne
    obtain ⟨q, x, rfl⟩ : ∃ q x, p = q ++ [x] := ⟨_, _, (List.dropLast_concat_getLast hne).symm⟩
    rw [lastR_snoc q x hm] at h1 h2
    simp only at h1 h2
    have hx := chainR_mem hm.2.2.1 x (by simp)
    have hx1 := hx.2.2.2.1
    have hk : ((x.2.2.toNat : Nat) : Int) = x.2.2 := by omega
    have hc := ofR_cut (bump x) x.2.2.toNat (by unfold bump; simp only; omega)
    rw [hk] at hc
    have hb : ofR (x.1 + x.2.2, x.2.1, 1) = [(t, r)] := by
      unfold rend at h2
      have : x.1 + x.2.2 = t := by omega
      rw [this, h1]
      simp [ofR]
    have hb2 : (bump x).2.2 - x.2.2 = 1 := by unfold bump; simp only; omega
    rw [hb2] at hc
    unfold bump at hc
    simp only at hc
    rw [hb] at hc
    simp only [List.dropLast_concat, List.getLastD_concat, allR_append]
    unfold bump
    simp only [allR, List.flatMap_cons, List.flatMap_nil, List.append_nil]
    rw [hc]
    simp
  · rw [if_neg h, allR_append]
    simp [allR, ofR]
theorem lastR_more {p : List Rn} {t r : Int} (ha : anyR p) (h : mayR (moreR p t r)) : lastR (moreR p t r) = (t, r) := by
  by_cases hg : goesOn p t r
  · have e : moreR p t r = p.dropLast ++ [bump (p.getLastD (0, 0, 0))] := if_pos hg
    rw [e] at h ⊢
    rw [lastR_snoc _ _ h]
    obtain ⟨hne, h1, h2⟩ := hg
    have hm := ha.resolve_left hne
    unfold lastR at h1 h2
    rw [if_pos hm] at h1 h2
    simp only at h1 h2
    unfold rend at h2
    unfold bump rend
    simp only [Prod.mk.injEq]
    exact ⟨by omega, h1.symm⟩
  · have e : moreR p t r = p ++ [(t, r, 1)] := if_neg hg
    rw [e] at h ⊢
    rw [lastR_snoc _ _ h]
    unfold rend
    simp only [Prod.mk.injEq]
    exact ⟨by omega, trivial⟩
theorem cmpS_ext (a : List Id2) (i : Id2) : cmpS a (a ++ [i]) = -1 := by
  have := cmpS_pre a [] [i]
  rw [List.append_nil] at this
  rw [this]
  rfl
theorem pre_ext (a : List Id2) (i : Id2) : a.isPrefixOf (a ++ [i]) = true := by
  have := pre_pre a [] [i]
  rw [List.append_nil] at this
  rw [this]
  rfl
theorem pre_ext' (a : List Id2) (i : Id2) : (a ++ [i]).isPrefixOf a = false := by
  have := pre_pre a [i] []
  rw [List.append_nil] at this
  rw [this]
  rfl
theorem cmpS_off {a b : List Id2} (h : cmpS a b = -1) (hp : a.isPrefixOf b = false) (i : Id2) : cmpS (a ++ [i]) b = -1 := by
  induction a generalizing b with
  | nil => simp at hp
  | cons x a ih =>
    cases b with
    | nil => simp [cmpS] at h
    | cons y b =>
      by_cases e : x = y
      · subst e
        simp only [cmpS, if_true, List.cons_append] at h ⊢
        refine ih h ?_
        simpa using hp
      · rw [List.cons_append, cmpS_ne e]
        rw [cmpS_ne e] at h
        exact h
theorem pre_more {a b : List Id2} (h : cmpS a b = -1) (hp : a.isPrefixOf b = true) : ∃ j c, b = a ++ j :: c := by
  obtain ⟨c, rfl⟩ := List.isPrefixOf_iff_prefix.1 hp
  cases c with
  | nil => rw [List.append_nil, cmpS_self] at h; omega
  | cons j c => exact ⟨j, c, rfl⟩
theorem cmpS_young (a c : List Id2) (i j : Id2) : cmpS (a ++ [i]) (a ++ j :: c) = 1 ↔ ltI i j := by
  rw [cmpS_pre]
  by_cases e : i = j
  · subst e
    simp only [cmpS, if_true]
    constructor
    · intro h; cases c <;> simp [cmpS] at h
    · intro h; exact absurd h (ltI_irrefl i)
  · rw [cmpS_ne e]
    rcases ltI_tri i j with h | h | h
    · rw [if_neg (ltI_asymm h)]; exact ⟨fun _ => h, fun _ => rfl⟩
    · exact absurd h e
    · rw [if_pos h]; exact ⟨fun g => by omega, fun g => absurd g (ltI_asymm h)⟩
end Go.Proofs.Ytbjfmkdjnglgbaa
