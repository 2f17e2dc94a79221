/-
  An operation in a box: what it reads, what its stores leave. No condition.
-/
import Derived.Test.YtbjfmkdjnglgbaaOpCheck
namespace Go.Proofs.Ytbjfmkdjnglgbaa
open Go.RowKit

/-- An operation in a box. -/
def FB (w : World) (g : Nat) (k t r s z : Value) : Prop := w.heap[g]? = some (.cells #[k, t, r, s, z] 47 (0, 0))
theorem five_fb (w : World) (k t r s z : Value) : ∃ w2, w.alloc (.cells #[k, t, r, s, z] 47) = w2 ∧ FB w2 w.heap.size k t r s z ∧ w.heap.size < w2.heap.size ∧ Below w.heap.size w w2 :=
  ⟨_, rfl, heap_alloc_new _ _, by simp, boxed _ _⟩
theorem FB.cells {w : World} {g : Nat} {k t r s z : Value} (h : FB w g k t r s z) : w.cell? ⟨g, 0, none⟩ = some k ∧ w.cell? ⟨g, 1, none⟩ = some t ∧ w.cell? ⟨g, 2, none⟩ = some r ∧ w.cell? ⟨g, 3, none⟩ = some s ∧ w.cell? ⟨g, 4, none⟩ = some z := by
  refine ⟨?_, ?_, ?_, ?_, ?_⟩ <;> (rw [cell_of_row _ _ _ _ _ _ h]; rfl)
theorem FB.fr {w : World} {g : Nat} {k t r s z : Value} (h : FB w g k t r s z) (j : Nat) : w.frozen? ⟨g, j, none⟩ = false := frozen_of_row _ _ _ _ _ h
theorem FB.lt {w : World} {g : Nat} {k t r s z : Value} (h : FB w g k t r s z) : g < w.heap.size := (Array.getElem?_eq_some_iff.1 h).1
theorem FB.below {w w' : World} {g : Nat} {k t r s z : Value} (h : FB w g k t r s z) (hb : Below w.heap.size w w') : FB w' g k t r s z := (hb.block g h.lt).trans h
theorem FB.set3 {w : World} {g : Nat} {k t r s z : Value} (h : FB w g k t r s z) (v : Value) : FB (w.setCell ⟨g, 3, none⟩ v) g k t r v z := heap_setCell_same _ _ _ _ _ _ h
theorem FB.set4 {w : World} {g : Nat} {k t r s z : Value} (h : FB w g k t r s z) (v : Value) : FB (w.setCell ⟨g, 4, none⟩ v) g k t r s v := heap_setCell_same _ _ _ _ _ _ h
theorem FB.other {w : World} {g : Nat} {k t r s z : Value} (h : FB w g k t r s z) {g' : Nat} (hne : g ≠ g') (off : Nat) (v : Value) : FB (w.setCell ⟨g', off, none⟩ v) g k t r s z := (heap_setCell_other _ _ _ _ hne).trans h
/-- The five stores of an operation. -/
def put5 (w : World) (g : Nat) (k t r s z : Value) : World := ((((w.setCell ⟨g, 0, none⟩ k).setCell ⟨g, 1, none⟩ t).setCell ⟨g, 2, none⟩ r).setCell ⟨g, 3, none⟩ s).setCell ⟨g, 4, none⟩ z
theorem put5_fb {w : World} {g : Nat} {k' t' r' s' z' : Value} (h : FB w g k' t' r' s' z') (k t r s z : Value) : FB (put5 w g k t r s z) g k t r s z := by
  unfold put5
  exact heap_setCell_same _ _ _ _ _ _ (heap_setCell_same _ _ _ _ _ _ (heap_setCell_same _ _ _ _ _ _ (heap_setCell_same _ _ _ _ _ _ (heap_setCell_same _ _ _ _ _ _ h))))
theorem put5_below {B : Nat} {w W : World} (h : Below B w W) (g : Nat) (k t r s z : Value) (hB : B ≤ g) : Below B w (put5 W g k t r s z) := ((((h.setCell hB _).setCell hB _).setCell hB _).setCell hB _).setCell hB _
theorem put5_other {w : World} {g : Nat} {k t r s z : Value} {g' : Nat} (hne : g' ≠ g) : (put5 w g k t r s z).heap[g']? = w.heap[g']? := by
  unfold put5
  rw [heap_setCell_other _ _ _ _ hne, heap_setCell_other _ _ _ _ hne, heap_setCell_other _ _ _ _ hne, heap_setCell_other _ _ _ _ hne, heap_setCell_other _ _ _ _ hne]
theorem own_other {w w' : World} {base B : Nat} {e : TypeId} {size n : Nat} {v : Value} {L : List Value} (h : w.ownsRow base e size v n L) (hB : B ≤ base) (hk : ∀ g, base ≤ g → w'.heap[g]? = w.heap[g]?) : w'.ownsRow B e size v n L := by
  refine ⟨h.1, ?_⟩
  rcases h.2 with h0 | ⟨g, cap, cur, h1, h2, h3, h4⟩
  · exact .inl h0
  · exact .inr ⟨g, cap, cur, h1, Nat.le_trans hB h2, (hk g h2).trans h3, h4⟩
end Go.Proofs.Ytbjfmkdjnglgbaa
