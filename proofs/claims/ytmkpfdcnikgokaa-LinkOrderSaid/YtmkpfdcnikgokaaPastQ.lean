/-
  The lexical walk of a drawn region, shut: so that nothing unfolds what is left of it. No condition.
-/
import Derived.Test.YtmkpfdcnikgokaaPast
namespace Go.Proofs.Ytmkpfdcnikgokaa
open Go.RowKit

/-- The kit's lexical walk, in a box. -/
structure WQ (P : Program) (ops : Array Oper) (C : World → Prop) (Q : Act → Prop) (l : List Oper) (a : Act) : Prop where
  out : wpQuiet P ops C Q l a
theorem WQ.step {P : Program} {ops : Array Oper} {C : World → Prop} {Q : Act → Prop} {a : Act} {o : Oper} {rest : List Oper}
    (h : ∀ K : Act → Prop, (∀ a, WQ P ops C Q rest a → K a) → if Region.wanted o (yielded ops a.tmps) then o.quiet P a C K else K (a.put o.dst undef)) : WQ P ops C Q (o :: rest) a :=
  ⟨wpQuiet_step fun K hK => h K fun a ha => hK a ha.out⟩
theorem WQ.nil {P : Program} {ops : Array Oper} {C : World → Prop} {Q : Act → Prop} {a : Act} (h : Q a) : WQ P ops C Q [] a := ⟨wpQuiet_nil h⟩
/-- The region, its operations written out. -/
theorem wp_region_wq {P : Program} {id : Nat} {Q : Exit → Act → World → Prop} {a : Act} {w : World} {l : List Oper} (hm : P.follows .mixedOrders = true) (hB : Region.lexB .any l.toArray = true)
    (h : WQ P l.toArray (fun w' => ∃ u, w' = past w u) (fun a' => ∀ u, Q .normal a' (past w u)) l a) : (Code.region id l.toArray true).wp P Q a w := by
  refine wp_region_past hm hB ?_
  have := h.out
  simpa only [forall_exists_index, forall_eq_apply_imp_iff] using this
end Go.Proofs.Ytmkpfdcnikgokaa
