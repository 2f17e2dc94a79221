/-
  No cell of these rows narrows 'for every input' (looked for: loops, veiled, ifaces, maps, wideKeys, modest, calm, conditions, laid).
  DERIVED. THE GIVEN ROWS OF THIS SEAT. 9 by the template 'for every input the law returns true; each argument reads behind the call as it read before'; 0 by the template 'total and deterministic' (their statements: YtllmlnbgfikeaaaTotals.lean).
  GIVEN WITH THE SEED: the statements are not yours to turn. If you find one false, say at which input.
  Laid BY PROGRAM, IN A SANDBOX (cutbox-rows.mjs): the forced cells as the released guide's own fill.sh prints them over the translation 531026c26823fb34… (all of the seat's roots in one cut). By AI agents, Wed Nov 11 2026. No macro, syntax, notation, axiom, sorry.
-/
import Derived.Test.YtllmlnbgfikeaaaChecked
import GoSem.Claim
import GoSem.ClaimJoined
import GoSem.ClaimMapViews
import Derived.JoinedTies
import Derived.KernelRfl
namespace Go.Proofs.Ytllmlnbgfikeaaa
/- THE CELL 'sum', in the pinned program and in every row, IS THE sha256 OF THE DUMP (.gsa) THAT YtllmlnbgfikeaaaProg.lean LOADS. Nothing in Lean hashes anything: it is a label: what it is worth is what the hold of that sum in a sandbox is worth. -/
noncomputable def Try.pinned : Pinned := { name := "ytllmlnbgfikeaaa", sum := "531026c26823fb34b5a176e5523f22be7c78935e30a97ee4544e6f93fa6a7616", checked := Try.checked }
namespace Rows
def none {H : Type} : Left H := { results := [], args := [] }

/-- 'octavolaw04.PointJoins': WHATEVER THE INPUT: true; the input reads as it did. -/
def pointJoinsSpec : ChangeSpec := { name := "pointJoins", fn := fun _ => fun
  | [d1, d2] => { results := [.lit (.bool true)], args := [d1, d2] }
  | _ => none }
def pointJoinsRow : OpenClaim := { program := "ytllmlnbgfikeaaa", sum := "531026c26823fb34b5a176e5523f22be7c78935e30a97ee4544e6f93fa6a7616", func := "octavo/octavolaw04.PointJoins", spec := "pointJoins", apart := false }
def PointJoinsSaid : Prop := pointJoinsRow.holds Try.pinned (OpenSpec.ofChange pointJoinsSpec)

/-- ITS FALSE NEIGHBOUR: 'it returns false'. Refute it at one input. -/
def pointJoinsWrong : ChangeSpec := { name := "pointJoins", fn := fun _ => fun
  | [d1, d2] => { results := [.lit (.bool false)], args := [d1, d2] }
  | _ => none }
def PointJoinsWrongFalsely : Prop := pointJoinsRow.holds Try.pinned (OpenSpec.ofChange pointJoinsWrong)

/-- 'octavolaw05.StampNames': WHATEVER THE INPUT: true; the input reads as it did. -/
def stampNamesSpec : ChangeSpec := { name := "stampNames", fn := fun _ => fun
  | [] => { results := [.lit (.bool true)], args := [] }
  | _ => none }
def stampNamesRow : OpenClaim := { program := "ytllmlnbgfikeaaa", sum := "531026c26823fb34b5a176e5523f22be7c78935e30a97ee4544e6f93fa6a7616", func := "octavo/octavolaw05.StampNames", spec := "stampNames", apart := false }
def StampNamesSaid : Prop := stampNamesRow.holds Try.pinned (OpenSpec.ofChange stampNamesSpec)

/-- ITS FALSE NEIGHBOUR: 'it returns false'. Refute it at one input. -/
def stampNamesWrong : ChangeSpec := { name := "stampNames", fn := fun _ => fun
  | [] => { results := [.lit (.bool false)], args := [] }
  | _ => none }
def StampNamesWrongFalsely : Prop := stampNamesRow.holds Try.pinned (OpenSpec.ofChange stampNamesWrong)

/-- 'octavolaw05.StampTells': WHATEVER THE INPUT: true; the input reads as it did. -/
def stampTellsSpec : ChangeSpec := { name := "stampTells", fn := fun _ => fun
  | [d1, d2, d3, d4] => { results := [.lit (.bool true)], args := [d1, d2, d3, d4] }
  | _ => none }
def stampTellsRow : OpenClaim := { program := "ytllmlnbgfikeaaa", sum := "531026c26823fb34b5a176e5523f22be7c78935e30a97ee4544e6f93fa6a7616", func := "octavo/octavolaw05.StampTells", spec := "stampTells", apart := false }
def StampTellsSaid : Prop := stampTellsRow.holds Try.pinned (OpenSpec.ofChange stampTellsSpec)

/-- ITS FALSE NEIGHBOUR: 'it returns false'. Refute it at one input. -/
def stampTellsWrong : ChangeSpec := { name := "stampTells", fn := fun _ => fun
  | [d1, d2, d3, d4] => { results := [.lit (.bool false)], args := [d1, d2, d3, d4] }
  | _ => none }
def StampTellsWrongFalsely : Prop := stampTellsRow.holds Try.pinned (OpenSpec.ofChange stampTellsWrong)

/-- 'octavolaw05.StampOrder': WHATEVER THE INPUT: true; the input reads as it did. -/
def stampOrderSpec : ChangeSpec := { name := "stampOrder", fn := fun _ => fun
  | [d1, d2, d3] => { results := [.lit (.bool true)], args := [d1, d2, d3] }
  | _ => none }
def stampOrderRow : OpenClaim := { program := "ytllmlnbgfikeaaa", sum := "531026c26823fb34b5a176e5523f22be7c78935e30a97ee4544e6f93fa6a7616", func := "octavo/octavolaw05.StampOrder", spec := "stampOrder", apart := false }
def StampOrderSaid : Prop := stampOrderRow.holds Try.pinned (OpenSpec.ofChange stampOrderSpec)

/-- ITS FALSE NEIGHBOUR: 'it returns false'. Refute it at one input. -/
def stampOrderWrong : ChangeSpec := { name := "stampOrder", fn := fun _ => fun
  | [d1, d2, d3] => { results := [.lit (.bool false)], args := [d1, d2, d3] }
  | _ => none }
def StampOrderWrongFalsely : Prop := stampOrderRow.holds Try.pinned (OpenSpec.ofChange stampOrderWrong)

/-- 'octavolaw05.StampNext': WHATEVER THE INPUT: true; the input reads as it did. -/
def stampNextSpec : ChangeSpec := { name := "stampNext", fn := fun _ => fun
  | [d1, d2] => { results := [.lit (.bool true)], args := [d1, d2] }
  | _ => none }
def stampNextRow : OpenClaim := { program := "ytllmlnbgfikeaaa", sum := "531026c26823fb34b5a176e5523f22be7c78935e30a97ee4544e6f93fa6a7616", func := "octavo/octavolaw05.StampNext", spec := "stampNext", apart := false }
def StampNextSaid : Prop := stampNextRow.holds Try.pinned (OpenSpec.ofChange stampNextSpec)

/-- ITS FALSE NEIGHBOUR: 'it returns false'. Refute it at one input. -/
def stampNextWrong : ChangeSpec := { name := "stampNext", fn := fun _ => fun
  | [d1, d2] => { results := [.lit (.bool false)], args := [d1, d2] }
  | _ => none }
def StampNextWrongFalsely : Prop := stampNextRow.holds Try.pinned (OpenSpec.ofChange stampNextWrong)

/-- 'octavolaw04.PointNames': WHATEVER THE INPUT: true; the input reads as it did. -/
def pointNamesSpec : ChangeSpec := { name := "pointNames", fn := fun _ => fun
  | [] => { results := [.lit (.bool true)], args := [] }
  | _ => none }
def pointNamesRow : OpenClaim := { program := "ytllmlnbgfikeaaa", sum := "531026c26823fb34b5a176e5523f22be7c78935e30a97ee4544e6f93fa6a7616", func := "octavo/octavolaw04.PointNames", spec := "pointNames", apart := false }
def PointNamesSaid : Prop := pointNamesRow.holds Try.pinned (OpenSpec.ofChange pointNamesSpec)

/-- ITS FALSE NEIGHBOUR: 'it returns false'. Refute it at one input. -/
def pointNamesWrong : ChangeSpec := { name := "pointNames", fn := fun _ => fun
  | [] => { results := [.lit (.bool false)], args := [] }
  | _ => none }
def PointNamesWrongFalsely : Prop := pointNamesRow.holds Try.pinned (OpenSpec.ofChange pointNamesWrong)

/-- 'octavolaw04.PointTells': WHATEVER THE INPUT: true; the input reads as it did. -/
def pointTellsSpec : ChangeSpec := { name := "pointTells", fn := fun _ => fun
  | [d1, d2, d3] => { results := [.lit (.bool true)], args := [d1, d2, d3] }
  | _ => none }
def pointTellsRow : OpenClaim := { program := "ytllmlnbgfikeaaa", sum := "531026c26823fb34b5a176e5523f22be7c78935e30a97ee4544e6f93fa6a7616", func := "octavo/octavolaw04.PointTells", spec := "pointTells", apart := false }
def PointTellsSaid : Prop := pointTellsRow.holds Try.pinned (OpenSpec.ofChange pointTellsSpec)

/-- ITS FALSE NEIGHBOUR: 'it returns false'. Refute it at one input. -/
def pointTellsWrong : ChangeSpec := { name := "pointTells", fn := fun _ => fun
  | [d1, d2, d3] => { results := [.lit (.bool false)], args := [d1, d2, d3] }
  | _ => none }
def PointTellsWrongFalsely : Prop := pointTellsRow.holds Try.pinned (OpenSpec.ofChange pointTellsWrong)

/-- 'octavolaw04.PointBack': WHATEVER THE INPUT: true; the input reads as it did. -/
def pointBackSpec : ChangeSpec := { name := "pointBack", fn := fun _ => fun
  | [d1, d2] => { results := [.lit (.bool true)], args := [d1, d2] }
  | _ => none }
def pointBackRow : OpenClaim := { program := "ytllmlnbgfikeaaa", sum := "531026c26823fb34b5a176e5523f22be7c78935e30a97ee4544e6f93fa6a7616", func := "octavo/octavolaw04.PointBack", spec := "pointBack", apart := false }
def PointBackSaid : Prop := pointBackRow.holds Try.pinned (OpenSpec.ofChange pointBackSpec)

/-- ITS FALSE NEIGHBOUR: 'it returns false'. Refute it at one input. -/
def pointBackWrong : ChangeSpec := { name := "pointBack", fn := fun _ => fun
  | [d1, d2] => { results := [.lit (.bool false)], args := [d1, d2] }
  | _ => none }
def PointBackWrongFalsely : Prop := pointBackRow.holds Try.pinned (OpenSpec.ofChange pointBackWrong)

/-- 'octavolaw04.PointOne': WHATEVER THE INPUT: true; the input reads as it did. -/
def pointOneSpec : ChangeSpec := { name := "pointOne", fn := fun _ => fun
  | [d] => { results := [.lit (.bool true)], args := [d] }
  | _ => none }
def pointOneRow : OpenClaim := { program := "ytllmlnbgfikeaaa", sum := "531026c26823fb34b5a176e5523f22be7c78935e30a97ee4544e6f93fa6a7616", func := "octavo/octavolaw04.PointOne", spec := "pointOne", apart := false }
def PointOneSaid : Prop := pointOneRow.holds Try.pinned (OpenSpec.ofChange pointOneSpec)

/-- ITS FALSE NEIGHBOUR: 'it returns false'. Refute it at one input. -/
def pointOneWrong : ChangeSpec := { name := "pointOne", fn := fun _ => fun
  | [d] => { results := [.lit (.bool false)], args := [d] }
  | _ => none }
def PointOneWrongFalsely : Prop := pointOneRow.holds Try.pinned (OpenSpec.ofChange pointOneWrong)

/- THE SECOND FORM. 'bulk': how many values and letters a reading holds, each counted each time it is reached (what is shared counts as often as it is met; a slice's spare places count too). A statement '..UptoSaid' is the law's where the arguments, and the package variables that the reading takes, are together of bulk at most 1048576: NARROWER than '..Said'. Prove '..Said' where nothing that the law and all that it calls make is longer than what came in: it says more and counts as full. Else prove '..UptoSaid'. A law counts once. -/
mutual
def uptoBulk {H : Type} : DataW H → Nat
  | .lit (.string bytes) => bytes.length + 1
  | .lit _ => 1
  | .nil => 1
  | .ptr d => uptoBulk d + 1
  | .slice elems spare => uptoBulkAll elems + uptoBulkAll spare + 1
  | .agg parts => uptoBulkAll parts + 1
  | .iface _ d => uptoBulk d + 1
  | .map entries => uptoBulkEntries entries + 1
  | .held _ => 1
def uptoBulkAll {H : Type} : List (DataW H) → Nat
  | [] => 0
  | d :: r => uptoBulk d + uptoBulkAll r
def uptoBulkEntries {H : Type} : List (Lit × DataW H) → Nat
  | [] => 0
  | x :: r => uptoBulkEntry x + uptoBulkEntries r
def uptoBulkEntry {H : Type} : Lit × DataW H → Nat
  | (.string bytes, d) => bytes.length + uptoBulk d + 1
  | (_, d) => uptoBulk d + 1
 end
def uptoSmall : (H : Type) → List (DataW H) → Bool := fun _ ds => decide (uptoBulkAll ds ≤ 1048576)
def OpenSpec.upto (s : _root_.Go.ChangeSpec) : _root_.Go.OpenSpec := { _root_.Go.OpenSpec.ofChange s with cond := some uptoSmall }

/-- 'octavolaw04.PointJoins', WHERE WHAT IT READS IS OF BULK AT MOST 1048576: true; the input reads as it did. -/
def pointJoinsUptoRow : OpenClaim := { program := "ytllmlnbgfikeaaa", sum := "531026c26823fb34b5a176e5523f22be7c78935e30a97ee4544e6f93fa6a7616", func := "octavo/octavolaw04.PointJoins", spec := "pointJoins", apart := false, narrowed := true }
def PointJoinsUptoSaid : Prop := pointJoinsUptoRow.holds Try.pinned (OpenSpec.upto pointJoinsSpec)

/-- 'octavolaw05.StampNames', WHERE WHAT IT READS IS OF BULK AT MOST 1048576: true; the input reads as it did. -/
def stampNamesUptoRow : OpenClaim := { program := "ytllmlnbgfikeaaa", sum := "531026c26823fb34b5a176e5523f22be7c78935e30a97ee4544e6f93fa6a7616", func := "octavo/octavolaw05.StampNames", spec := "stampNames", apart := false, narrowed := true }
def StampNamesUptoSaid : Prop := stampNamesUptoRow.holds Try.pinned (OpenSpec.upto stampNamesSpec)

/-- 'octavolaw05.StampTells', WHERE WHAT IT READS IS OF BULK AT MOST 1048576: true; the input reads as it did. -/
def stampTellsUptoRow : OpenClaim := { program := "ytllmlnbgfikeaaa", sum := "531026c26823fb34b5a176e5523f22be7c78935e30a97ee4544e6f93fa6a7616", func := "octavo/octavolaw05.StampTells", spec := "stampTells", apart := false, narrowed := true }
def StampTellsUptoSaid : Prop := stampTellsUptoRow.holds Try.pinned (OpenSpec.upto stampTellsSpec)

/-- 'octavolaw05.StampOrder', WHERE WHAT IT READS IS OF BULK AT MOST 1048576: true; the input reads as it did. -/
def stampOrderUptoRow : OpenClaim := { program := "ytllmlnbgfikeaaa", sum := "531026c26823fb34b5a176e5523f22be7c78935e30a97ee4544e6f93fa6a7616", func := "octavo/octavolaw05.StampOrder", spec := "stampOrder", apart := false, narrowed := true }
def StampOrderUptoSaid : Prop := stampOrderUptoRow.holds Try.pinned (OpenSpec.upto stampOrderSpec)

/-- 'octavolaw05.StampNext', WHERE WHAT IT READS IS OF BULK AT MOST 1048576: true; the input reads as it did. -/
def stampNextUptoRow : OpenClaim := { program := "ytllmlnbgfikeaaa", sum := "531026c26823fb34b5a176e5523f22be7c78935e30a97ee4544e6f93fa6a7616", func := "octavo/octavolaw05.StampNext", spec := "stampNext", apart := false, narrowed := true }
def StampNextUptoSaid : Prop := stampNextUptoRow.holds Try.pinned (OpenSpec.upto stampNextSpec)

/-- 'octavolaw04.PointNames', WHERE WHAT IT READS IS OF BULK AT MOST 1048576: true; the input reads as it did. -/
def pointNamesUptoRow : OpenClaim := { program := "ytllmlnbgfikeaaa", sum := "531026c26823fb34b5a176e5523f22be7c78935e30a97ee4544e6f93fa6a7616", func := "octavo/octavolaw04.PointNames", spec := "pointNames", apart := false, narrowed := true }
def PointNamesUptoSaid : Prop := pointNamesUptoRow.holds Try.pinned (OpenSpec.upto pointNamesSpec)

/-- 'octavolaw04.PointTells', WHERE WHAT IT READS IS OF BULK AT MOST 1048576: true; the input reads as it did. -/
def pointTellsUptoRow : OpenClaim := { program := "ytllmlnbgfikeaaa", sum := "531026c26823fb34b5a176e5523f22be7c78935e30a97ee4544e6f93fa6a7616", func := "octavo/octavolaw04.PointTells", spec := "pointTells", apart := false, narrowed := true }
def PointTellsUptoSaid : Prop := pointTellsUptoRow.holds Try.pinned (OpenSpec.upto pointTellsSpec)

/-- 'octavolaw04.PointBack', WHERE WHAT IT READS IS OF BULK AT MOST 1048576: true; the input reads as it did. -/
def pointBackUptoRow : OpenClaim := { program := "ytllmlnbgfikeaaa", sum := "531026c26823fb34b5a176e5523f22be7c78935e30a97ee4544e6f93fa6a7616", func := "octavo/octavolaw04.PointBack", spec := "pointBack", apart := false, narrowed := true }
def PointBackUptoSaid : Prop := pointBackUptoRow.holds Try.pinned (OpenSpec.upto pointBackSpec)

/-- 'octavolaw04.PointOne', WHERE WHAT IT READS IS OF BULK AT MOST 1048576: true; the input reads as it did. -/
def pointOneUptoRow : OpenClaim := { program := "ytllmlnbgfikeaaa", sum := "531026c26823fb34b5a176e5523f22be7c78935e30a97ee4544e6f93fa6a7616", func := "octavo/octavolaw04.PointOne", spec := "pointOne", apart := false, narrowed := true }
def PointOneUptoSaid : Prop := pointOneUptoRow.holds Try.pinned (OpenSpec.upto pointOneSpec)

end Rows
end Go.Proofs.Ytllmlnbgfikeaaa
