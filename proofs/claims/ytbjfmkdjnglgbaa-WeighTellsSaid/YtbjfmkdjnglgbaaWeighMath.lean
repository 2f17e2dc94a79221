/-
  What operations weigh, in plain numbers. No condition.
-/
import Derived.Test.YtbjfmkdjnglgbaaListMath
namespace Go.Proofs.Ytbjfmkdjnglgbaa
open Go.RowKit

/-- What one weighs. -/
def szO (x : OpL) : Nat := (putB x.k x.t x.r x.p x.z).length
theorem szO_may {x : OpL} (h : mayL x) : szO x = (opBL x).length := by
  unfold szO
  rw [show putB x.k x.t x.r x.p x.z = opB x.k x.t x.r x.p x.z from if_pos h]
  rfl
theorem szO_le {x : OpL} (h : okO x) : szO x ≤ 1200 := by
  by_cases hm : mayL x
  · rw [szO_may hm]
    exact opB_len hm h
  · unfold szO
    rw [show putB x.k x.t x.r x.p x.z = [] from if_neg hm]
    exact Nat.zero_le _
/-- What of one counts as content. -/
def conO (x : OpL) : Nat := if x.k = 1 ∨ x.k = 3 then szO x else 0
theorem conO_le {x : OpL} (h : okO x) : conO x ≤ 1200 := by
  unfold conO
  split
  · exact szO_le h
  · exact Nat.zero_le _
def totL : List OpL → Nat
  | [] => 0
  | x :: l => conO x + totL l
theorem totL_snoc (L : List OpL) (x : OpL) : totL (L ++ [x]) = totL L + conO x := by
  induction L with
  | nil => simp [totL]
  | cons y L ih => simp only [List.cons_append, totL, ih]; omega
theorem totL_le : ∀ (L : List OpL), (∀ x ∈ L, okO x) → totL L ≤ 1200 * L.length
  | [], _ => by simp [totL]
  | x :: L, h => by
    have h1 := totL_le L fun y hy => h y (List.mem_cons_of_mem _ hy)
    have h2 := conO_le (h x List.mem_cons_self)
    simp only [totL, List.length_cons]
    omega
def sumL : List OpL → Nat
  | [] => 0
  | x :: l => szO x + sumL l
theorem sumL_snoc (L : List OpL) (x : OpL) : sumL (L ++ [x]) = sumL L + szO x := by
  induction L with
  | nil => simp [sumL]
  | cons y L ih => simp only [List.cons_append, sumL, ih]; omega
theorem sumL_le : ∀ (L : List OpL), (∀ x ∈ L, okO x) → sumL L ≤ 1200 * L.length
  | [], _ => by simp [sumL]
  | x :: L, h => by
    have h1 := sumL_le L fun y hy => h y (List.mem_cons_of_mem _ hy)
    have h2 := szO_le (h x List.mem_cons_self)
    simp only [sumL, List.length_cons]
    omega
/-- How many more go into a piece, so many being in it that weigh so much. -/
def cntP : Nat → Nat → List OpL → Nat
  | _, _, [] => 0
  | j, s, x :: l => if j < 64 ∧ (j = 0 ∨ s + szO x ≤ 8192) then cntP (j + 1) (s + szO x) l + 1 else 0
def pcs (L : List OpL) : Nat := cntP 0 0 L
theorem cntP_le : ∀ (L : List OpL) (j s : Nat), cntP j s L ≤ L.length
  | [], _, _ => by simp [cntP]
  | x :: L, j, s => by
    have := cntP_le L (j + 1) (s + szO x)
    unfold cntP
    split
    · simp only [List.length_cons]; omega
    · exact Nat.zero_le _
theorem pcs_le (L : List OpL) : pcs L ≤ L.length := cntP_le L 0 0
theorem cntP_max : ∀ (L : List OpL) (j s : Nat), j ≤ 64 → j + cntP j s L ≤ 64
  | [], j, _, h => by simp [cntP, h]
  | x :: L, j, s, h => by
    unfold cntP
    split
    · rename_i hc
      have := cntP_max L (j + 1) (s + szO x) (by omega)
      omega
    · omega
theorem pcs_max (L : List OpL) : pcs L ≤ 64 := by have := cntP_max L 0 0 (by omega); unfold pcs; omega
theorem pcs_pos {L : List OpL} (h : 0 < L.length) : 0 < pcs L := by
  cases L with
  | nil => simp at h
  | cons x L => simp [pcs, cntP]
/-- What a piece weighs, and that one more would weigh too much. -/
theorem cntP_sum : ∀ (L : List OpL) (j s : Nat), (0 < j → s ≤ 8192) → (∀ x ∈ L, szO x ≤ 8192) → (j = 0 → s = 0) → s + sumL (L.take (cntP j s L)) ≤ 8192 ∧ ∀ x, L[cntP j s L]? = some x → j + cntP j s L < 64 → 8192 < s + sumL (L.take (cntP j s L)) + szO x
  | [], j, s, h, _, h0 => by
    refine ⟨?_, fun x hx => by simp at hx⟩
    simp only [cntP, List.take_zero, sumL]
    rcases Nat.eq_zero_or_pos j with e | e
    · have := h0 e; omega
    · have := h e; omega
  | x :: L, j, s, h, hx, h0 => by
    have hx0 := hx x List.mem_cons_self
    unfold cntP
    split
    · rename_i hc
      obtain ⟨g1, g2⟩ := cntP_sum L (j + 1) (s + szO x) (fun _ => by
        rcases hc.2 with e | e
        · have := h0 e; omega
        · exact e) (fun y hy => hx y (List.mem_cons_of_mem _ hy)) (fun e => by omega)
      simp only [List.take_succ_cons, sumL, List.getElem?_cons_succ]
      refine ⟨by omega, fun y hy h64 => ?_⟩
      have := g2 y hy (by omega)
      omega
    · rename_i hc
      simp only [List.take_zero, sumL, List.getElem?_cons_zero, Option.some.injEq]
      refine ⟨?_, fun y hy h64 => ?_⟩
      · rcases Nat.eq_zero_or_pos j with e | e
        · have := h0 e; omega
        · have := h e; omega
      · subst hy
        omega
/-- An integer in a box. -/
def IB (w : World) (g s : Nat) : Prop := w.heap[g]? = some (.cells #[.int .i64 (s : Int)] 3 (0, 0))
theorem IB.lt {w : World} {g s : Nat} (h : IB w g s) : g < w.heap.size := (Array.getElem?_eq_some_iff.1 h).1
theorem IB.below {w w' : World} {g s : Nat} (h : IB w g s) (hb : Below w.heap.size w w') : IB w' g s := (hb.block g h.lt).trans h
theorem IB.cell {w : World} {g s : Nat} (h : IB w g s) : w.cell? ⟨g, 0, none⟩ = some (.int .i64 (s : Int)) := by rw [cell_of_row _ _ _ _ _ _ h]; rfl
theorem IB.set {w : World} {g s : Nat} (h : IB w g s) (s2 : Nat) : IB (w.setCell ⟨g, 0, none⟩ (.int .i64 (s2 : Int))) g s2 := heap_setCell_same _ _ _ _ _ _ h
theorem RO.less {w : World} {B : Nat} {A : Option Addr} {L : List OpL} (h : RO w B A L) {k : Nat} (hk : k ≤ L.length) : RO w B A (L.take k) := by
  refine ⟨⟨?_, fun h0 => ?_⟩, fun x hx => h.2 x (List.mem_of_mem_take hx)⟩
  · rw [opcs_len]
  · rw [List.length_take] at h0
    obtain ⟨b, off, e, hb, hc⟩ := h.1.2 (by omega)
    refine ⟨b, off, e, hb, fun j u hu => hc j u ?_⟩
    have e2 : opcs L = opcs (L.take k) ++ opcs (L.drop k) := by rw [← opcs_append, List.take_append_drop]
    rw [e2, List.getElem?_append_left (Array.getElem?_eq_some_iff.1 (by simpa using hu)).1]
    exact hu
theorem RO.past {w : World} {B b off : Nat} {L : List OpL} (h : RO w B (some ⟨b, off, none⟩) L) (k : Nat) : RO w B (some ⟨b, off + k * 5, none⟩) (L.drop k) := by
  refine ⟨⟨?_, fun h0 => ?_⟩, fun x hx => h.2 x (List.mem_of_mem_drop hx)⟩
  · rw [opcs_len]
  · rw [List.length_drop] at h0
    obtain ⟨b', off', e, hb, hc⟩ := h.1.2 (by omega)
    cases e
    refine ⟨b, off + k * 5, rfl, hb, fun j u hu => ?_⟩
    rw [Nat.add_assoc]
    refine hc _ u ?_
    have e2 : opcs L = opcs (L.take k) ++ opcs (L.drop k) := by rw [← opcs_append, List.take_append_drop]
    have e3 : (opcs (L.take k)).length = k * 5 := by rw [opcs_len, List.length_take, Nat.min_eq_left (by omega)]
    rw [e2, List.getElem?_append_right (by omega), e3, Nat.add_sub_cancel_left]
    exact hu
end Go.Proofs.Ytbjfmkdjnglgbaa
