/-
  A region that draws its order, whose operations only read what was there and whose calls leave what was there as it was: one walk in the order of the text. 'past w W' is W where W keeps all that w holds, else w. No condition.
-/
import Derived.Test.YtmkpfdcnikgokaaWords
namespace Go.Proofs.Ytmkpfdcnikgokaa
open Go.RowKit

/-- A world in which all that w holds stands as it does in w. -/
noncomputable def past (w W : World) : World := @ite World (Below w.heap.size w W) (Classical.propDecidable _) W w
theorem below_past (w W : World) : Below w.heap.size w (past w W) := by
  unfold past
  by_cases h : Below w.heap.size w W
  · rw [if_pos h]; exact h
  · rw [if_neg h]; exact Below.refl _ _
theorem past_of {w W : World} (h : Below w.heap.size w W) : W = past w W := by unfold past; rw [if_pos h]
@[go_sem] theorem cell?_past (w W : World) (a : Addr) (h : a.block < w.heap.size) : (past w W).cell? a = w.cell? a := (below_past w W).cell h
@[go_sem] theorem frozen?_past (w W : World) (a : Addr) (h : a.block < w.heap.size) : (past w W).frozen? a = w.frozen? a := (below_past w W).frozen h

theorem RB.past {w : World} {A : Option Addr} {l : List UInt8} (h : RB w w.heap.size A l) (W : World) : RB (past w W) (past w W).heap.size A l := (RD.below h (below_past w W)).more (below_past w W).size

/-- A callee's contract met in such a world. -/
theorem past_call {P : Program} {f : FuncId} {args : Array Value} {w W : World} {v : Value}
    (h : Calls P f args (past w W) fun e w' => e = .returned v ∧ Below (past w W).heap.size (past w W) w') : Calls P f args (past w W) fun e w' => e = .returned v ∧ ∃ u, w' = past w u :=
  h.mono fun _ w' ⟨he, hb⟩ => ⟨he, w', past_of ((below_past w W).trans (hb.mono (below_past w W).size))⟩

/-- A load of a whole array or struct, in such a region. -/
theorem quiet_load {P : Program} {ops : Array Oper} {C : World → Prop} {Q : Act → Prop} {a : Act} {o : Oper} {rest : List Oper} {v : Value} (ty : TypeId) (x : Operand) (g : Nat) (ho : o.op = .load ty x)
    (hw : Region.wanted o (yielded ops a.tmps) = true) (hx : a.eval x = .pointer (some ⟨g, 0, none⟩)) (hv : ∀ W, C W → (loadVar ty ⟨g, 0, none⟩).run P W = .ok v W)
    (h : wpQuiet P ops C Q rest (a.put o.dst v)) : wpQuiet P ops C Q (o :: rest) a := by
  unfold wpQuiet
  rw [if_pos hw]
  refine ⟨v, fun W hW => ?_, h⟩
  unfold Oper.quietAt execOp
  simp only [ho, hx, Instr.loadAt, Instr.sureAddr, Sem.run_bind, Sem.run_pure, Result.andThen_ok, hv W hW]
  exact ⟨rfl, rfl⟩

/-- The region, its operations written out. -/
theorem wp_region_past {P : Program} {id : Nat} {Q : Exit → Act → World → Prop} {a : Act} {w : World} {l : List Oper} (hm : P.follows .mixedOrders = true) (hB : Region.lexB .any l.toArray = true)
    (h : wpQuiet P l.toArray (fun w' => ∃ u, w' = past w u) (fun a' => ∀ w', (∃ u, w' = past w u) → Q .normal a' w') l a) : (Code.region id l.toArray true).wp P Q a w :=
  wp_region_quiet (C := fun w' => ∃ u, w' = past w u) hm hB ⟨w.drew, past_of (Below.refl _ _).drew⟩ (by simpa using h)
end Go.Proofs.Ytmkpfdcnikgokaa
