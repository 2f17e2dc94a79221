/-
  No cell of these rows narrows 'for every input' (looked for: loops, veiled, ifaces, maps, wideKeys, modest, calm, conditions, laid).
  DERIVED. THE GIVEN ROWS OF THIS SEAT. 6 by the template 'for every input the law returns true; each argument reads behind the call as it read before'; 0 by the template 'total and deterministic' (their statements: YtmkpfdcnikgokaaTotals.lean).
  GIVEN WITH THE SEED: the statements are not yours to turn. If you find one false, say at which input.
  Laid BY PROGRAM, IN A SANDBOX (cutbox-rows.mjs): the forced cells as the released guide's own fill.sh prints them over the translation 85dce1a99de1123e… (all of the seat's roots in one cut). By AI agents, Wed Nov 11 2026. No macro, syntax, notation, axiom, sorry.
-/
import Derived.Test.YtmkpfdcnikgokaaChecked
import GoSem.Claim
import GoSem.ClaimJoined
import GoSem.ClaimMapViews
import Derived.JoinedTies
import Derived.KernelRfl
namespace Go.Proofs.Ytmkpfdcnikgokaa
/- THE CELL 'sum', in the pinned program and in every row, IS THE sha256 OF THE DUMP (.gsa) THAT YtmkpfdcnikgokaaProg.lean LOADS. Nothing in Lean hashes anything: it is a label: what it is worth is what the hold of that sum in a sandbox is worth. -/
noncomputable def Try.pinned : Pinned := { name := "ytmkpfdcnikgokaa", sum := "85dce1a99de1123e093f599cd136b34b7df0adeea13c2956e4dd81dbc92e48fa", checked := Try.checked }
namespace Rows
def none {H : Type} : Left H := { results := [], args := [] }

/-- 'octavolaw29.LinkOrder': WHATEVER THE INPUT: true; the input reads as it did. -/
def linkOrderSpec : ChangeSpec := { name := "linkOrder", fn := fun _ => fun
  | [d1, d2] => { results := [.lit (.bool true)], args := [d1, d2] }
  | _ => none }
def linkOrderRow : OpenClaim := { program := "ytmkpfdcnikgokaa", sum := "85dce1a99de1123e093f599cd136b34b7df0adeea13c2956e4dd81dbc92e48fa", func := "octavo/octavolaw29.LinkOrder", spec := "linkOrder", unfollowed := true, recurses := true, apart := false }
def LinkOrderSaid : Prop := linkOrderRow.holds Try.pinned (OpenSpec.ofChange linkOrderSpec)

/-- ITS FALSE NEIGHBOUR: 'it returns false'. Refute it at one input. -/
def linkOrderWrong : ChangeSpec := { name := "linkOrder", fn := fun _ => fun
  | [d1, d2] => { results := [.lit (.bool false)], args := [d1, d2] }
  | _ => none }
def LinkOrderWrongFalsely : Prop := linkOrderRow.holds Try.pinned (OpenSpec.ofChange linkOrderWrong)

/-- 'octavolaw29.LinkGarbles': WHATEVER THE INPUT: true; the input reads as it did. -/
def linkGarblesSpec : ChangeSpec := { name := "linkGarbles", fn := fun _ => fun
  | [d1, d2, d3] => { results := [.lit (.bool true)], args := [d1, d2, d3] }
  | _ => none }
def linkGarblesRow : OpenClaim := { program := "ytmkpfdcnikgokaa", sum := "85dce1a99de1123e093f599cd136b34b7df0adeea13c2956e4dd81dbc92e48fa", func := "octavo/octavolaw29.LinkGarbles", spec := "linkGarbles", unfollowed := true, recurses := true, apart := false }
def LinkGarblesSaid : Prop := linkGarblesRow.holds Try.pinned (OpenSpec.ofChange linkGarblesSpec)

/-- ITS FALSE NEIGHBOUR: 'it returns false'. Refute it at one input. -/
def linkGarblesWrong : ChangeSpec := { name := "linkGarbles", fn := fun _ => fun
  | [d1, d2, d3] => { results := [.lit (.bool false)], args := [d1, d2, d3] }
  | _ => none }
def LinkGarblesWrongFalsely : Prop := linkGarblesRow.holds Try.pinned (OpenSpec.ofChange linkGarblesWrong)

/-- 'octavolaw24.MailNames': WHATEVER THE INPUT: true; the input reads as it did. -/
def mailNamesSpec : ChangeSpec := { name := "mailNames", fn := fun _ => fun
  | [] => { results := [.lit (.bool true)], args := [] }
  | _ => none }
def mailNamesRow : OpenClaim := { program := "ytmkpfdcnikgokaa", sum := "85dce1a99de1123e093f599cd136b34b7df0adeea13c2956e4dd81dbc92e48fa", func := "octavo/octavolaw24.MailNames", spec := "mailNames", unfollowed := true, recurses := true, apart := false }
def MailNamesSaid : Prop := mailNamesRow.holds Try.pinned (OpenSpec.ofChange mailNamesSpec)

/-- ITS FALSE NEIGHBOUR: 'it returns false'. Refute it at one input. -/
def mailNamesWrong : ChangeSpec := { name := "mailNames", fn := fun _ => fun
  | [] => { results := [.lit (.bool false)], args := [] }
  | _ => none }
def MailNamesWrongFalsely : Prop := mailNamesRow.holds Try.pinned (OpenSpec.ofChange mailNamesWrong)

/-- 'octavolaw24.MailBack': WHATEVER THE INPUT: true; the input reads as it did. -/
def mailBackSpec : ChangeSpec := { name := "mailBack", fn := fun _ => fun
  | [d1, d2] => { results := [.lit (.bool true)], args := [d1, d2] }
  | _ => none }
def mailBackRow : OpenClaim := { program := "ytmkpfdcnikgokaa", sum := "85dce1a99de1123e093f599cd136b34b7df0adeea13c2956e4dd81dbc92e48fa", func := "octavo/octavolaw24.MailBack", spec := "mailBack", unfollowed := true, recurses := true, apart := false }
def MailBackSaid : Prop := mailBackRow.holds Try.pinned (OpenSpec.ofChange mailBackSpec)

/-- ITS FALSE NEIGHBOUR: 'it returns false'. Refute it at one input. -/
def mailBackWrong : ChangeSpec := { name := "mailBack", fn := fun _ => fun
  | [d1, d2] => { results := [.lit (.bool false)], args := [d1, d2] }
  | _ => none }
def MailBackWrongFalsely : Prop := mailBackRow.holds Try.pinned (OpenSpec.ofChange mailBackWrong)

/-- 'octavolaw24.MailBody': WHATEVER THE INPUT: true; the input reads as it did. -/
def mailBodySpec : ChangeSpec := { name := "mailBody", fn := fun _ => fun
  | [d1, d2, d3] => { results := [.lit (.bool true)], args := [d1, d2, d3] }
  | _ => none }
def mailBodyRow : OpenClaim := { program := "ytmkpfdcnikgokaa", sum := "85dce1a99de1123e093f599cd136b34b7df0adeea13c2956e4dd81dbc92e48fa", func := "octavo/octavolaw24.MailBody", spec := "mailBody", unfollowed := true, recurses := true, apart := false }
def MailBodySaid : Prop := mailBodyRow.holds Try.pinned (OpenSpec.ofChange mailBodySpec)

/-- ITS FALSE NEIGHBOUR: 'it returns false'. Refute it at one input. -/
def mailBodyWrong : ChangeSpec := { name := "mailBody", fn := fun _ => fun
  | [d1, d2, d3] => { results := [.lit (.bool false)], args := [d1, d2, d3] }
  | _ => none }
def MailBodyWrongFalsely : Prop := mailBodyRow.holds Try.pinned (OpenSpec.ofChange mailBodyWrong)

/-- 'octavolaw29.LinkNames': WHATEVER THE INPUT: true; the input reads as it did. -/
def linkNamesSpec : ChangeSpec := { name := "linkNames", fn := fun _ => fun
  | [] => { results := [.lit (.bool true)], args := [] }
  | _ => none }
def linkNamesRow : OpenClaim := { program := "ytmkpfdcnikgokaa", sum := "85dce1a99de1123e093f599cd136b34b7df0adeea13c2956e4dd81dbc92e48fa", func := "octavo/octavolaw29.LinkNames", spec := "linkNames", unfollowed := true, recurses := true, apart := false }
def LinkNamesSaid : Prop := linkNamesRow.holds Try.pinned (OpenSpec.ofChange linkNamesSpec)

/-- ITS FALSE NEIGHBOUR: 'it returns false'. Refute it at one input. -/
def linkNamesWrong : ChangeSpec := { name := "linkNames", fn := fun _ => fun
  | [] => { results := [.lit (.bool false)], args := [] }
  | _ => none }
def LinkNamesWrongFalsely : Prop := linkNamesRow.holds Try.pinned (OpenSpec.ofChange linkNamesWrong)

/- THE SECOND FORM. 'bulk': how many values and letters a reading holds, each counted each time it is reached (what is shared counts as often as it is met; a slice's spare places count too). A statement '..UptoSaid' is the law's where the arguments, and the package variables that the reading takes, are together of bulk at most 1048576: NARROWER than '..Said'. Prove '..Said' where nothing that the law and all that it calls make is longer than what came in: it says more and counts as full. Else prove '..UptoSaid'. A law counts once. -/
mutual
def uptoBulk {H : Type} : DataW H → Nat
  | .lit (.string bytes) => bytes.length + 1
  | .lit _ => 1
  | .nil => 1
  | .ptr d => uptoBulk d + 1
  | .slice elems spare => uptoBulkAll elems + uptoBulkAll spare + 1
  | .agg parts => uptoBulkAll parts + 1
  | .iface _ d => uptoBulk d + 1
  | .map entries => uptoBulkEntries entries + 1
  | .held _ => 1
def uptoBulkAll {H : Type} : List (DataW H) → Nat
  | [] => 0
  | d :: r => uptoBulk d + uptoBulkAll r
def uptoBulkEntries {H : Type} : List (Lit × DataW H) → Nat
  | [] => 0
  | x :: r => uptoBulkEntry x + uptoBulkEntries r
def uptoBulkEntry {H : Type} : Lit × DataW H → Nat
  | (.string bytes, d) => bytes.length + uptoBulk d + 1
  | (_, d) => uptoBulk d + 1
 end
def uptoSmall : (H : Type) → List (DataW H) → Bool := fun _ ds => decide (uptoBulkAll ds ≤ 1048576)
def OpenSpec.upto (s : _root_.Go.ChangeSpec) : _root_.Go.OpenSpec := { _root_.Go.OpenSpec.ofChange s with cond := some uptoSmall }

/-- 'octavolaw29.LinkOrder', WHERE WHAT IT READS IS OF BULK AT MOST 1048576: true; the input reads as it did. -/
def linkOrderUptoRow : OpenClaim := { program := "ytmkpfdcnikgokaa", sum := "85dce1a99de1123e093f599cd136b34b7df0adeea13c2956e4dd81dbc92e48fa", func := "octavo/octavolaw29.LinkOrder", spec := "linkOrder", unfollowed := true, recurses := true, apart := false, narrowed := true }
def LinkOrderUptoSaid : Prop := linkOrderUptoRow.holds Try.pinned (OpenSpec.upto linkOrderSpec)

/-- 'octavolaw29.LinkGarbles', WHERE WHAT IT READS IS OF BULK AT MOST 1048576: true; the input reads as it did. -/
def linkGarblesUptoRow : OpenClaim := { program := "ytmkpfdcnikgokaa", sum := "85dce1a99de1123e093f599cd136b34b7df0adeea13c2956e4dd81dbc92e48fa", func := "octavo/octavolaw29.LinkGarbles", spec := "linkGarbles", unfollowed := true, recurses := true, apart := false, narrowed := true }
def LinkGarblesUptoSaid : Prop := linkGarblesUptoRow.holds Try.pinned (OpenSpec.upto linkGarblesSpec)

/-- 'octavolaw24.MailNames', WHERE WHAT IT READS IS OF BULK AT MOST 1048576: true; the input reads as it did. -/
def mailNamesUptoRow : OpenClaim := { program := "ytmkpfdcnikgokaa", sum := "85dce1a99de1123e093f599cd136b34b7df0adeea13c2956e4dd81dbc92e48fa", func := "octavo/octavolaw24.MailNames", spec := "mailNames", unfollowed := true, recurses := true, apart := false, narrowed := true }
def MailNamesUptoSaid : Prop := mailNamesUptoRow.holds Try.pinned (OpenSpec.upto mailNamesSpec)

/-- 'octavolaw24.MailBack', WHERE WHAT IT READS IS OF BULK AT MOST 1048576: true; the input reads as it did. -/
def mailBackUptoRow : OpenClaim := { program := "ytmkpfdcnikgokaa", sum := "85dce1a99de1123e093f599cd136b34b7df0adeea13c2956e4dd81dbc92e48fa", func := "octavo/octavolaw24.MailBack", spec := "mailBack", unfollowed := true, recurses := true, apart := false, narrowed := true }
def MailBackUptoSaid : Prop := mailBackUptoRow.holds Try.pinned (OpenSpec.upto mailBackSpec)

/-- 'octavolaw24.MailBody', WHERE WHAT IT READS IS OF BULK AT MOST 1048576: true; the input reads as it did. -/
def mailBodyUptoRow : OpenClaim := { program := "ytmkpfdcnikgokaa", sum := "85dce1a99de1123e093f599cd136b34b7df0adeea13c2956e4dd81dbc92e48fa", func := "octavo/octavolaw24.MailBody", spec := "mailBody", unfollowed := true, recurses := true, apart := false, narrowed := true }
def MailBodyUptoSaid : Prop := mailBodyUptoRow.holds Try.pinned (OpenSpec.upto mailBodySpec)

/-- 'octavolaw29.LinkNames', WHERE WHAT IT READS IS OF BULK AT MOST 1048576: true; the input reads as it did. -/
def linkNamesUptoRow : OpenClaim := { program := "ytmkpfdcnikgokaa", sum := "85dce1a99de1123e093f599cd136b34b7df0adeea13c2956e4dd81dbc92e48fa", func := "octavo/octavolaw29.LinkNames", spec := "linkNames", unfollowed := true, recurses := true, apart := false, narrowed := true }
def LinkNamesUptoSaid : Prop := linkNamesUptoRow.holds Try.pinned (OpenSpec.upto linkNamesSpec)

end Rows
end Go.Proofs.Ytmkpfdcnikgokaa
