/-
  Texts of this claim, put together: AppStep. What each theorem asks stands in its statement.
-/
import Derived.Test.YtmkpfdcnikgokaaGa20
namespace Go.Proofs.Ytmkpfdcnikgokaa
open Go.RowKit
/-- What stands in the middle of such a region: before and behind the call, the row, the append, the store. -/
structure AJ (kl ke kc kr ka ks sc sr sa : Nat) (T E0 E1 O0 B0 : World → Prop) (X : Value → World → Prop) (R : Value → Nat → World → Prop) (O1 B1 : Value → World → Prop) (done : Nat → Bool) (ρ : Nat → Value) (W : World) : Prop where
  t : T W
  e0 : done kc = false → E0 W
  e1 : done kc = true → E1 W
  o0 : done ka = false → O0 W
  x1 : done kc = true → done ka = false → X (ρ sc) W ∧ (done kr = true → ∃ q, ρ sr = .slice (some ⟨q, 0, none⟩) 1 1 ∧ R (ρ sc) q W)
  a1 : done ka = true → O1 (ρ sa) W
  b0 : done ks = false → B0 W
  b1 : done ks = true → B1 (ρ sa) W
  zr : done kr = true → done kc = true
  za : done ka = true → done kr = true
  zs : done ks = true → done ka = true
  zl : done ka = true → done kl = true
  ze : done ke = true → done kc = true
section
variable {kl ke kc kr ka ks sc sr sa : Nat} {T E0 E1 O0 B0 : World → Prop} {X : Value → World → Prop} {R : Value → Nat → World → Prop} {O1 B1 : Value → World → Prop} {done : Nat → Bool} {ρ : Nat → Value} {W : World}
theorem AJ.start (ρ : Nat → Value) (t : T W) (e : E0 W) (o : O0 W) (b : B0 W) : AJ kl ke kc kr ka ks sc sr sa T E0 E1 O0 B0 X R O1 B1 (fun _ => false) ρ W :=
  ⟨t, fun _ => e, fun h => (by cases h), fun _ => o, fun h => (by cases h), fun h => (by cases h), fun _ => b, fun h => (by cases h), fun h => (by cases h), fun h => (by cases h), fun h => (by cases h), fun h => (by cases h), fun h => (by cases h)⟩
theorem AJ.plain (h : AJ kl ke kc kr ka ks sc sr sa T E0 E1 O0 B0 X R O1 B1 done ρ W) (i d : Nat) (v : Value) (h1 : kc ≠ i) (h2 : kr ≠ i) (h3 : ka ≠ i) (h4 : ks ≠ i) (d1 : sc ≠ d) (d2 : sr ≠ d) (d3 : sa ≠ d) (z : ke = i → done kc = true) :
    AJ kl ke kc kr ka ks sc sr sa T E0 E1 O0 B0 X R O1 B1 (upd done i) (putS ρ (some d) v) W :=
  { t := h.t
    e0 := fun k => by rw [upd_ne h1] at k; exact h.e0 k
    e1 := fun k => by rw [upd_ne h1] at k; exact h.e1 k
    o0 := fun k => by rw [upd_ne h3] at k; exact h.o0 k
    x1 := fun k l => by
      rw [upd_ne h1] at k
      rw [upd_ne h3] at l
      rw [upd_ne h2, put_ne d1, put_ne d2]
      exact h.x1 k l
    a1 := fun k => by rw [upd_ne h3] at k; rw [put_ne d3]; exact h.a1 k
    b0 := fun k => by rw [upd_ne h4] at k; exact h.b0 k
    b1 := fun k => by rw [upd_ne h4] at k; rw [put_ne d3]; exact h.b1 k
    zr := fun k => by rw [upd_ne h2] at k; rw [upd_ne h1]; exact h.zr k
    za := fun k => by rw [upd_ne h3] at k; rw [upd_ne h2]; exact h.za k
    zs := fun k => by rw [upd_ne h4] at k; rw [upd_ne h3]; exact h.zs k
    zl := fun k => by rw [upd_ne h3] at k; exact upd_true (h.zl k)
    ze := fun k => by
      by_cases e : ke = i
      · exact upd_true (z e)
      · rw [upd_ne e] at k; exact upd_true (h.ze k) }
theorem AJ.nor (h : AJ kl ke kc kr ka ks sc sr sa T E0 E1 O0 B0 X R O1 B1 done ρ W) (hc : done kc = false) : done kr = false := by
  cases hx : done kr with
  | false => rfl
  | true => rw [h.zr hx] at hc; cases hc
theorem AJ.noa (h : AJ kl ke kc kr ka ks sc sr sa T E0 E1 O0 B0 X R O1 B1 done ρ W) (hc : done kr = false) : done ka = false := by
  cases hx : done ka with
  | false => rfl
  | true => rw [h.za hx] at hc; cases hc
theorem AJ.nos (h : AJ kl ke kc kr ka ks sc sr sa T E0 E1 O0 B0 X R O1 B1 done ρ W) (hc : done ka = false) : done ks = false := by
  cases hx : done ks with
  | false => rfl
  | true => rw [h.zs hx] at hc; cases hc
theorem AJ.call (h : AJ kl ke kc kr ka ks sc sr sa T E0 E1 O0 B0 X R O1 B1 done ρ W) (hn : done kc = false) (hd : kc ≠ kr ∧ kc ≠ ka ∧ kc ≠ ks) {v : Value} {W' : World} (t : T W') (e : E1 W') (o : O0 W') (b : B0 W') (x : X v W') :
    AJ kl ke kc kr ka ks sc sr sa T E0 E1 O0 B0 X R O1 B1 (upd done kc) (putS ρ (some sc) v) W' := by
  have nr := h.nor hn
  have na := h.noa nr
  have ns := h.nos na
  exact
  { t := t
    e0 := fun k => by rw [upd_eq] at k; cases k
    e1 := fun _ => e
    o0 := fun _ => o
    x1 := fun _ _ => by
      rw [put_eq]
      exact ⟨x, fun k => by rw [upd_ne hd.1.symm, nr] at k; cases k⟩
    a1 := fun k => by rw [upd_ne hd.2.1.symm, na] at k; cases k
    b0 := fun _ => b
    b1 := fun k => by rw [upd_ne hd.2.2.symm, ns] at k; cases k
    zr := fun _ => upd_eq
    za := fun k => by rw [upd_ne hd.2.1.symm, na] at k; cases k
    zs := fun k => by rw [upd_ne hd.2.2.symm, ns] at k; cases k
    zl := fun k => by rw [upd_ne hd.2.1.symm, na] at k; cases k
    ze := fun _ => upd_eq }
theorem AJ.row (h : AJ kl ke kc kr ka ks sc sr sa T E0 E1 O0 B0 X R O1 B1 done ρ W) (hn : done kr = false) (hc : done kc = true) (hd : kr ≠ kc ∧ kr ≠ ka ∧ kr ≠ ks ∧ sc ≠ sr) {q : Nat} {W' : World} (t : T W') (e : E1 W') (o : O0 W') (b : B0 W') (x : X (ρ sc) W') (r : R (ρ sc) q W') :
    AJ kl ke kc kr ka ks sc sr sa T E0 E1 O0 B0 X R O1 B1 (upd done kr) (putS ρ (some sr) (.slice (some ⟨q, 0, none⟩) 1 1)) W' := by
  have na := h.noa hn
  have ns := h.nos na
  exact
  { t := t
    e0 := fun k => by rw [upd_ne hd.1.symm, hc] at k; cases k
    e1 := fun _ => e
    o0 := fun _ => o
    x1 := fun _ _ => by
      rw [put_ne hd.2.2.2]
      exact ⟨x, fun _ => ⟨q, put_eq, r⟩⟩
    a1 := fun k => by rw [upd_ne hd.2.1.symm, na] at k; cases k
    b0 := fun _ => b
    b1 := fun k => by rw [upd_ne hd.2.2.1.symm, ns] at k; cases k
    zr := fun _ => upd_true hc
    za := fun _ => upd_eq
    zs := fun k => by rw [upd_ne hd.2.2.1.symm, ns] at k; cases k
    zl := fun k => by rw [upd_ne hd.2.1.symm, na] at k; cases k
    ze := fun _ => upd_true hc }
theorem AJ.app (h : AJ kl ke kc kr ka ks sc sr sa T E0 E1 O0 B0 X R O1 B1 done ρ W) (hn : done ka = false) (hr : done kr = true) (hl : done kl = true) (hd : ka ≠ kc ∧ ka ≠ kr ∧ ka ≠ ks) {v : Value} {W' : World} (t : T W') (e : E1 W') (o : O1 v W') (b : B0 W') :
    AJ kl ke kc kr ka ks sc sr sa T E0 E1 O0 B0 X R O1 B1 (upd done ka) (putS ρ (some sa) v) W' := by
  have ns := h.nos hn
  exact
  { t := t
    e0 := fun k => by rw [upd_ne hd.1.symm, h.zr hr] at k; cases k
    e1 := fun _ => e
    o0 := fun k => by rw [upd_eq] at k; cases k
    x1 := fun _ k => by rw [upd_eq] at k; cases k
    a1 := fun _ => by rw [put_eq]; exact o
    b0 := fun _ => b
    b1 := fun k => by rw [upd_ne hd.2.2.symm, ns] at k; cases k
    zr := fun _ => upd_true (h.zr hr)
    za := fun _ => upd_true hr
    zs := fun _ => upd_eq
    zl := fun _ => upd_true hl
    ze := fun _ => upd_true (h.zr hr) }
theorem AJ.store (h : AJ kl ke kc kr ka ks sc sr sa T E0 E1 O0 B0 X R O1 B1 done ρ W) (ha : done ka = true) (hd : ks ≠ kc ∧ ks ≠ kr ∧ ks ≠ ka) {v : Value} {W' : World} (t : T W') (e : E1 W') (o : O1 (ρ sa) W') (b : B1 (ρ sa) W') :
    AJ kl ke kc kr ka ks sc sr sa T E0 E1 O0 B0 X R O1 B1 (upd done ks) (putS ρ none v) W' :=
  { t := t
    e0 := fun k => by rw [upd_ne hd.1.symm, h.zr (h.za ha)] at k; cases k
    e1 := fun _ => e
    o0 := fun k => by rw [upd_ne hd.2.2.symm, ha] at k; cases k
    x1 := fun _ k => by rw [upd_ne hd.2.2.symm, ha] at k; cases k
    a1 := fun _ => o
    b0 := fun k => by rw [upd_eq] at k; cases k
    b1 := fun _ => b
    zr := fun _ => upd_true (h.zr (h.za ha))
    za := fun _ => upd_true (h.za ha)
    zs := fun _ => upd_true ha
    zl := fun _ => upd_true (h.zl ha)
    ze := fun _ => upd_true (h.zr (h.za ha)) }
end
end Go.Proofs.Ytmkpfdcnikgokaa
