/-
  An invariant over what is done, of one kind: a property of the world that each operation keeps, and a value for each slot. No condition.
-/
import Derived.Test.YtmkpfdcnikgokaaInv
namespace Go.Proofs.Ytmkpfdcnikgokaa
open Go.RowKit

/-- The slots that are written, once each. -/
def oncesB (S : List (Option Nat)) : Bool := (List.range S.length).all fun i => (List.range S.length).all fun j => decide (i = j) || (match (S[i]?).join, (S[j]?).join with | some a, some b => decide (a ≠ b) | _, _ => true)
/-- The values of what is done; and a property of the world. -/
def LI (L : List (Option (Nat × Value))) (Wp : World → Prop) : Inv := fun done ρ w => Wp w ∧ ∀ i s v, (L[i]?).join = some (s, v) → done i = true → ρ s = v
theorem LI.start (L : List (Option (Nat × Value))) {Wp : World → Prop} {ρ : Nat → Value} {w : World} (h : Wp w) : LI L Wp (fun _ => false) ρ w := ⟨h, fun _ _ _ _ h => by cases h⟩
theorem LI.get {L : List (Option (Nat × Value))} {Wp : World → Prop} {done : Nat → Bool} {ρ : Nat → Value} {w : World} (h : LI L Wp done ρ w) (i s : Nat) (v : Value) (hi : (L[i]?).join = some (s, v)) (hd : done i = true) : ρ s = v := h.2 i s v hi hd
theorem LI.put {L : List (Option (Nat × Value))} {Wp : World → Prop} {done : Nat → Bool} {ρ : Nat → Value} {w w' : World} (h : LI L Wp done ρ w) (S : List (Option Nat)) (hS : L.map (Option.map Prod.fst) = S) (hB : oncesB S = true) (i d : Nat) (v : Value) (hi : (L[i]?).join = some (d, v)) (hw : Wp w') :
    LI L Wp (upd done i) (putS ρ (some d) v) w' := by
  refine ⟨hw, fun j s u hj hd => ?_⟩
  have slot : ∀ (k s : Nat) (u : Value), (L[k]?).join = some (s, u) → (S[k]?).join = some s ∧ k < S.length := by
    intro k s u hk
    rw [← hS, List.getElem?_map, List.length_map]
    cases hx : L[k]? with
    | none => rw [hx] at hk; cases hk
    | some o =>
      rw [hx] at hk
      simp only [Option.join] at hk
      refine ⟨?_, (List.getElem?_eq_some_iff.1 hx).1⟩
      simp [Option.join] at hk ⊢
      exact ⟨u, hk⟩
  by_cases hij : j = i
  · subst hij
    rw [hi] at hj
    simp only [Option.some.injEq, Prod.mk.injEq] at hj
    obtain ⟨rfl, rfl⟩ := hj
    simp [putS]
  · obtain ⟨s1, s2⟩ := slot j s u hj
    obtain ⟨s3, s4⟩ := slot i d v hi
    have hne : s ≠ d := by
      have := List.all_eq_true.1 (List.all_eq_true.1 hB j (List.mem_range.2 s2)) i (List.mem_range.2 s4)
      rw [s1, s3] at this
      simpa [hij] using this
    simp only [putS, hne, if_false]
    refine h.2 j s u hj ?_
    simpa [upd, hij] using hd
theorem LI.world {L : List (Option (Nat × Value))} {Wp : World → Prop} {done : Nat → Bool} {ρ : Nat → Value} {w w' : World} (h : LI L Wp done ρ w) (i : Nat) (v : Value) (hi : (L[i]?).join = none) (hw : Wp w') : LI L Wp (upd done i) (putS ρ none v) w' := by
  refine ⟨hw, fun j s u hj hd => h.2 j s u hj ?_⟩
  have hij : j ≠ i := fun e => by rw [e, hi] at hj; cases hj
  simpa [upd, hij] using hd
theorem arr_list (T : Array Value) (n : Nat) (h : T.size = n) : T = ((List.range n).map fun i => T.getD i undef).toArray := by
  refine Array.ext (by simp [h]) fun i h1 h2 => ?_
  simp [Array.getD, h1]
end Go.Proofs.Ytmkpfdcnikgokaa
