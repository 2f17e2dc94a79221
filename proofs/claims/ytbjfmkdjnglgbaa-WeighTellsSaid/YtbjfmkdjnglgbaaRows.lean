/-
  No cell of these rows narrows 'for every input' (looked for: loops, veiled, ifaces, maps, wideKeys, modest, calm, conditions, laid).
  DERIVED. THE GIVEN ROWS OF THIS SEAT. 19 by the template 'for every input the law returns true; each argument reads behind the call as it read before'; 0 by the template 'total and deterministic' (their statements: YtbjfmkdjnglgbaaTotals.lean).
  GIVEN WITH THE SEED: the statements are not yours to turn. If you find one false, say at which input.
  Laid BY PROGRAM, IN A SANDBOX (cutbox-rows.mjs): the forced cells as the released guide's own fill.sh prints them over the translation 237dc8bc39baf429… (all of the seat's roots in one cut). By AI agents, Wed Nov 11 2026. No macro, syntax, notation, axiom, sorry.
-/
import Derived.Test.YtbjfmkdjnglgbaaChecked
import GoSem.Claim
import GoSem.ClaimJoined
import GoSem.ClaimMapViews
import Derived.JoinedTies
import Derived.KernelRfl
namespace Go.Proofs.Ytbjfmkdjnglgbaa
/- THE CELL 'sum', in the pinned program and in every row, IS THE sha256 OF THE DUMP (.gsa) THAT YtbjfmkdjnglgbaaProg.lean LOADS. Nothing in Lean hashes anything: it is a label: what it is worth is what the hold of that sum in a sandbox is worth. -/
noncomputable def Try.pinned : Pinned := { name := "ytbjfmkdjnglgbaa", sum := "237dc8bc39baf4296aa6714dba121cf092ca3be607658fb5431fd43c50007a32", checked := Try.checked }
namespace Rows
def none {H : Type} : Left H := { results := [], args := [] }

/-- 'octavolaw06.PlaceUnder': WHATEVER THE INPUT: true; the input reads as it did. -/
def placeUnderSpec : ChangeSpec := { name := "placeUnder", fn := fun _ => fun
  | [d1, d2] => { results := [.lit (.bool true)], args := [d1, d2] }
  | _ => none }
def placeUnderRow : OpenClaim := { program := "ytbjfmkdjnglgbaa", sum := "237dc8bc39baf4296aa6714dba121cf092ca3be607658fb5431fd43c50007a32", func := "octavo/octavolaw06.PlaceUnder", spec := "placeUnder", apart := false }
def PlaceUnderSaid : Prop := placeUnderRow.holds Try.pinned (OpenSpec.ofChange placeUnderSpec)

/-- ITS FALSE NEIGHBOUR: 'it returns false'. Refute it at one input. -/
def placeUnderWrong : ChangeSpec := { name := "placeUnder", fn := fun _ => fun
  | [d1, d2] => { results := [.lit (.bool false)], args := [d1, d2] }
  | _ => none }
def PlaceUnderWrongFalsely : Prop := placeUnderRow.holds Try.pinned (OpenSpec.ofChange placeUnderWrong)

/-- 'octavolaw09.OpKinds': WHATEVER THE INPUT: true; the input reads as it did. -/
def opKindsSpec : ChangeSpec := { name := "opKinds", fn := fun _ => fun
  | [d1, d2] => { results := [.lit (.bool true)], args := [d1, d2] }
  | _ => none }
def opKindsRow : OpenClaim := { program := "ytbjfmkdjnglgbaa", sum := "237dc8bc39baf4296aa6714dba121cf092ca3be607658fb5431fd43c50007a32", func := "octavo/octavolaw09.OpKinds", spec := "opKinds", unfollowed := true, recurses := true, apart := false }
def OpKindsSaid : Prop := opKindsRow.holds Try.pinned (OpenSpec.ofChange opKindsSpec)

/-- ITS FALSE NEIGHBOUR: 'it returns false'. Refute it at one input. -/
def opKindsWrong : ChangeSpec := { name := "opKinds", fn := fun _ => fun
  | [d1, d2] => { results := [.lit (.bool false)], args := [d1, d2] }
  | _ => none }
def OpKindsWrongFalsely : Prop := opKindsRow.holds Try.pinned (OpenSpec.ofChange opKindsWrong)

/-- 'octavolaw09.OpNames': WHATEVER THE INPUT: true; the input reads as it did. -/
def opNamesSpec : ChangeSpec := { name := "opNames", fn := fun _ => fun
  | [] => { results := [.lit (.bool true)], args := [] }
  | _ => none }
def opNamesRow : OpenClaim := { program := "ytbjfmkdjnglgbaa", sum := "237dc8bc39baf4296aa6714dba121cf092ca3be607658fb5431fd43c50007a32", func := "octavo/octavolaw09.OpNames", spec := "opNames", unfollowed := true, recurses := true, apart := false }
def OpNamesSaid : Prop := opNamesRow.holds Try.pinned (OpenSpec.ofChange opNamesSpec)

/-- ITS FALSE NEIGHBOUR: 'it returns false'. Refute it at one input. -/
def opNamesWrong : ChangeSpec := { name := "opNames", fn := fun _ => fun
  | [] => { results := [.lit (.bool false)], args := [] }
  | _ => none }
def OpNamesWrongFalsely : Prop := opNamesRow.holds Try.pinned (OpenSpec.ofChange opNamesWrong)

/-- 'octavolaw06.PlaceTells': WHATEVER THE INPUT: true; the input reads as it did. -/
def placeTellsSpec : ChangeSpec := { name := "placeTells", fn := fun _ => fun
  | [d1, d2] => { results := [.lit (.bool true)], args := [d1, d2] }
  | _ => none }
def placeTellsRow : OpenClaim := { program := "ytbjfmkdjnglgbaa", sum := "237dc8bc39baf4296aa6714dba121cf092ca3be607658fb5431fd43c50007a32", func := "octavo/octavolaw06.PlaceTells", spec := "placeTells", apart := false }
def PlaceTellsSaid : Prop := placeTellsRow.holds Try.pinned (OpenSpec.ofChange placeTellsSpec)

/-- ITS FALSE NEIGHBOUR: 'it returns false'. Refute it at one input. -/
def placeTellsWrong : ChangeSpec := { name := "placeTells", fn := fun _ => fun
  | [d1, d2] => { results := [.lit (.bool false)], args := [d1, d2] }
  | _ => none }
def PlaceTellsWrongFalsely : Prop := placeTellsRow.holds Try.pinned (OpenSpec.ofChange placeTellsWrong)

/-- 'octavolaw06.PlaceNames': WHATEVER THE INPUT: true; the input reads as it did. -/
def placeNamesSpec : ChangeSpec := { name := "placeNames", fn := fun _ => fun
  | [] => { results := [.lit (.bool true)], args := [] }
  | _ => none }
def placeNamesRow : OpenClaim := { program := "ytbjfmkdjnglgbaa", sum := "237dc8bc39baf4296aa6714dba121cf092ca3be607658fb5431fd43c50007a32", func := "octavo/octavolaw06.PlaceNames", spec := "placeNames", apart := false }
def PlaceNamesSaid : Prop := placeNamesRow.holds Try.pinned (OpenSpec.ofChange placeNamesSpec)

/-- ITS FALSE NEIGHBOUR: 'it returns false'. Refute it at one input. -/
def placeNamesWrong : ChangeSpec := { name := "placeNames", fn := fun _ => fun
  | [] => { results := [.lit (.bool false)], args := [] }
  | _ => none }
def PlaceNamesWrongFalsely : Prop := placeNamesRow.holds Try.pinned (OpenSpec.ofChange placeNamesWrong)

/-- 'octavolaw06.PlaceOrder': WHATEVER THE INPUT: true; the input reads as it did. -/
def placeOrderSpec : ChangeSpec := { name := "placeOrder", fn := fun _ => fun
  | [d1, d2, d3] => { results := [.lit (.bool true)], args := [d1, d2, d3] }
  | _ => none }
def placeOrderRow : OpenClaim := { program := "ytbjfmkdjnglgbaa", sum := "237dc8bc39baf4296aa6714dba121cf092ca3be607658fb5431fd43c50007a32", func := "octavo/octavolaw06.PlaceOrder", spec := "placeOrder", apart := false }
def PlaceOrderSaid : Prop := placeOrderRow.holds Try.pinned (OpenSpec.ofChange placeOrderSpec)

/-- ITS FALSE NEIGHBOUR: 'it returns false'. Refute it at one input. -/
def placeOrderWrong : ChangeSpec := { name := "placeOrder", fn := fun _ => fun
  | [d1, d2, d3] => { results := [.lit (.bool false)], args := [d1, d2, d3] }
  | _ => none }
def PlaceOrderWrongFalsely : Prop := placeOrderRow.holds Try.pinned (OpenSpec.ofChange placeOrderWrong)

/-- 'octavolaw06.PlaceChild': WHATEVER THE INPUT: true; the input reads as it did. -/
def placeChildSpec : ChangeSpec := { name := "placeChild", fn := fun _ => fun
  | [d1, d2, d3] => { results := [.lit (.bool true)], args := [d1, d2, d3] }
  | _ => none }
def placeChildRow : OpenClaim := { program := "ytbjfmkdjnglgbaa", sum := "237dc8bc39baf4296aa6714dba121cf092ca3be607658fb5431fd43c50007a32", func := "octavo/octavolaw06.PlaceChild", spec := "placeChild", apart := false }
def PlaceChildSaid : Prop := placeChildRow.holds Try.pinned (OpenSpec.ofChange placeChildSpec)

/-- ITS FALSE NEIGHBOUR: 'it returns false'. Refute it at one input. -/
def placeChildWrong : ChangeSpec := { name := "placeChild", fn := fun _ => fun
  | [d1, d2, d3] => { results := [.lit (.bool false)], args := [d1, d2, d3] }
  | _ => none }
def PlaceChildWrongFalsely : Prop := placeChildRow.holds Try.pinned (OpenSpec.ofChange placeChildWrong)

/-- 'octavolaw09.OpTells': WHATEVER THE INPUT: true; the input reads as it did. -/
def opTellsSpec : ChangeSpec := { name := "opTells", fn := fun _ => fun
  | [d1, d2] => { results := [.lit (.bool true)], args := [d1, d2] }
  | _ => none }
def opTellsRow : OpenClaim := { program := "ytbjfmkdjnglgbaa", sum := "237dc8bc39baf4296aa6714dba121cf092ca3be607658fb5431fd43c50007a32", func := "octavo/octavolaw09.OpTells", spec := "opTells", unfollowed := true, recurses := true, apart := false }
def OpTellsSaid : Prop := opTellsRow.holds Try.pinned (OpenSpec.ofChange opTellsSpec)

/-- ITS FALSE NEIGHBOUR: 'it returns false'. Refute it at one input. -/
def opTellsWrong : ChangeSpec := { name := "opTells", fn := fun _ => fun
  | [d1, d2] => { results := [.lit (.bool false)], args := [d1, d2] }
  | _ => none }
def OpTellsWrongFalsely : Prop := opTellsRow.holds Try.pinned (OpenSpec.ofChange opTellsWrong)

/-- 'octavolaw06.PlaceIds': WHATEVER THE INPUT: true; the input reads as it did. -/
def placeIdsSpec : ChangeSpec := { name := "placeIds", fn := fun _ => fun
  | [d] => { results := [.lit (.bool true)], args := [d] }
  | _ => none }
def placeIdsRow : OpenClaim := { program := "ytbjfmkdjnglgbaa", sum := "237dc8bc39baf4296aa6714dba121cf092ca3be607658fb5431fd43c50007a32", func := "octavo/octavolaw06.PlaceIds", spec := "placeIds", apart := false }
def PlaceIdsSaid : Prop := placeIdsRow.holds Try.pinned (OpenSpec.ofChange placeIdsSpec)

/-- ITS FALSE NEIGHBOUR: 'it returns false'. Refute it at one input. -/
def placeIdsWrong : ChangeSpec := { name := "placeIds", fn := fun _ => fun
  | [d] => { results := [.lit (.bool false)], args := [d] }
  | _ => none }
def PlaceIdsWrongFalsely : Prop := placeIdsRow.holds Try.pinned (OpenSpec.ofChange placeIdsWrong)

/-- 'octavolaw09.OpNeeds': WHATEVER THE INPUT: true; the input reads as it did. -/
def opNeedsSpec : ChangeSpec := { name := "opNeeds", fn := fun _ => fun
  | [d] => { results := [.lit (.bool true)], args := [d] }
  | _ => none }
def opNeedsRow : OpenClaim := { program := "ytbjfmkdjnglgbaa", sum := "237dc8bc39baf4296aa6714dba121cf092ca3be607658fb5431fd43c50007a32", func := "octavo/octavolaw09.OpNeeds", spec := "opNeeds", unfollowed := true, recurses := true, apart := false }
def OpNeedsSaid : Prop := opNeedsRow.holds Try.pinned (OpenSpec.ofChange opNeedsSpec)

/-- ITS FALSE NEIGHBOUR: 'it returns false'. Refute it at one input. -/
def opNeedsWrong : ChangeSpec := { name := "opNeeds", fn := fun _ => fun
  | [d] => { results := [.lit (.bool false)], args := [d] }
  | _ => none }
def OpNeedsWrongFalsely : Prop := opNeedsRow.holds Try.pinned (OpenSpec.ofChange opNeedsWrong)

/-- 'octavolaw18.WeighBounds': WHATEVER THE INPUT: true; the input reads as it did. -/
def weighBoundsSpec : ChangeSpec := { name := "weighBounds", fn := fun _ => fun
  | [d] => { results := [.lit (.bool true)], args := [d] }
  | _ => none }
def weighBoundsRow : OpenClaim := { program := "ytbjfmkdjnglgbaa", sum := "237dc8bc39baf4296aa6714dba121cf092ca3be607658fb5431fd43c50007a32", func := "octavo/octavolaw18.WeighBounds", spec := "weighBounds", unfollowed := true, recurses := true, apart := false }
def WeighBoundsSaid : Prop := weighBoundsRow.holds Try.pinned (OpenSpec.ofChange weighBoundsSpec)

/-- ITS FALSE NEIGHBOUR: 'it returns false'. Refute it at one input. -/
def weighBoundsWrong : ChangeSpec := { name := "weighBounds", fn := fun _ => fun
  | [d] => { results := [.lit (.bool false)], args := [d] }
  | _ => none }
def WeighBoundsWrongFalsely : Prop := weighBoundsRow.holds Try.pinned (OpenSpec.ofChange weighBoundsWrong)

/-- 'octavolaw10.CodeOne': WHATEVER THE INPUT: true; the input reads as it did. -/
def codeOneSpec : ChangeSpec := { name := "codeOne", fn := fun _ => fun
  | [d1, d2] => { results := [.lit (.bool true)], args := [d1, d2] }
  | _ => none }
def codeOneRow : OpenClaim := { program := "ytbjfmkdjnglgbaa", sum := "237dc8bc39baf4296aa6714dba121cf092ca3be607658fb5431fd43c50007a32", func := "octavo/octavolaw10.CodeOne", spec := "codeOne", unfollowed := true, recurses := true, apart := false }
def CodeOneSaid : Prop := codeOneRow.holds Try.pinned (OpenSpec.ofChange codeOneSpec)

/-- ITS FALSE NEIGHBOUR: 'it returns false'. Refute it at one input. -/
def codeOneWrong : ChangeSpec := { name := "codeOne", fn := fun _ => fun
  | [d1, d2] => { results := [.lit (.bool false)], args := [d1, d2] }
  | _ => none }
def CodeOneWrongFalsely : Prop := codeOneRow.holds Try.pinned (OpenSpec.ofChange codeOneWrong)

/-- 'octavolaw18.WeighNames': WHATEVER THE INPUT: true; the input reads as it did. -/
def weighNamesSpec : ChangeSpec := { name := "weighNames", fn := fun _ => fun
  | [] => { results := [.lit (.bool true)], args := [] }
  | _ => none }
def weighNamesRow : OpenClaim := { program := "ytbjfmkdjnglgbaa", sum := "237dc8bc39baf4296aa6714dba121cf092ca3be607658fb5431fd43c50007a32", func := "octavo/octavolaw18.WeighNames", spec := "weighNames", unfollowed := true, recurses := true, apart := false }
def WeighNamesSaid : Prop := weighNamesRow.holds Try.pinned (OpenSpec.ofChange weighNamesSpec)

/-- ITS FALSE NEIGHBOUR: 'it returns false'. Refute it at one input. -/
def weighNamesWrong : ChangeSpec := { name := "weighNames", fn := fun _ => fun
  | [] => { results := [.lit (.bool false)], args := [] }
  | _ => none }
def WeighNamesWrongFalsely : Prop := weighNamesRow.holds Try.pinned (OpenSpec.ofChange weighNamesWrong)

/-- 'octavolaw18.WeighTells': WHATEVER THE INPUT: true; the input reads as it did. -/
def weighTellsSpec : ChangeSpec := { name := "weighTells", fn := fun _ => fun
  | [d1, d2] => { results := [.lit (.bool true)], args := [d1, d2] }
  | _ => none }
def weighTellsRow : OpenClaim := { program := "ytbjfmkdjnglgbaa", sum := "237dc8bc39baf4296aa6714dba121cf092ca3be607658fb5431fd43c50007a32", func := "octavo/octavolaw18.WeighTells", spec := "weighTells", unfollowed := true, recurses := true, apart := false }
def WeighTellsSaid : Prop := weighTellsRow.holds Try.pinned (OpenSpec.ofChange weighTellsSpec)

/-- ITS FALSE NEIGHBOUR: 'it returns false'. Refute it at one input. -/
def weighTellsWrong : ChangeSpec := { name := "weighTells", fn := fun _ => fun
  | [d1, d2] => { results := [.lit (.bool false)], args := [d1, d2] }
  | _ => none }
def WeighTellsWrongFalsely : Prop := weighTellsRow.holds Try.pinned (OpenSpec.ofChange weighTellsWrong)

/-- 'octavolaw18.WeighPieces': WHATEVER THE INPUT: true; the input reads as it did. -/
def weighPiecesSpec : ChangeSpec := { name := "weighPieces", fn := fun _ => fun
  | [d] => { results := [.lit (.bool true)], args := [d] }
  | _ => none }
def weighPiecesRow : OpenClaim := { program := "ytbjfmkdjnglgbaa", sum := "237dc8bc39baf4296aa6714dba121cf092ca3be607658fb5431fd43c50007a32", func := "octavo/octavolaw18.WeighPieces", spec := "weighPieces", unfollowed := true, recurses := true, apart := false }
def WeighPiecesSaid : Prop := weighPiecesRow.holds Try.pinned (OpenSpec.ofChange weighPiecesSpec)

/-- ITS FALSE NEIGHBOUR: 'it returns false'. Refute it at one input. -/
def weighPiecesWrong : ChangeSpec := { name := "weighPieces", fn := fun _ => fun
  | [d] => { results := [.lit (.bool false)], args := [d] }
  | _ => none }
def WeighPiecesWrongFalsely : Prop := weighPiecesRow.holds Try.pinned (OpenSpec.ofChange weighPiecesWrong)

/-- 'octavolaw10.CodeList': WHATEVER THE INPUT: true; the input reads as it did. -/
def codeListSpec : ChangeSpec := { name := "codeList", fn := fun _ => fun
  | [d1, d2] => { results := [.lit (.bool true)], args := [d1, d2] }
  | _ => none }
def codeListRow : OpenClaim := { program := "ytbjfmkdjnglgbaa", sum := "237dc8bc39baf4296aa6714dba121cf092ca3be607658fb5431fd43c50007a32", func := "octavo/octavolaw10.CodeList", spec := "codeList", unfollowed := true, recurses := true, apart := false }
def CodeListSaid : Prop := codeListRow.holds Try.pinned (OpenSpec.ofChange codeListSpec)

/-- ITS FALSE NEIGHBOUR: 'it returns false'. Refute it at one input. -/
def codeListWrong : ChangeSpec := { name := "codeList", fn := fun _ => fun
  | [d1, d2] => { results := [.lit (.bool false)], args := [d1, d2] }
  | _ => none }
def CodeListWrongFalsely : Prop := codeListRow.holds Try.pinned (OpenSpec.ofChange codeListWrong)

/-- 'octavolaw10.CodeOnes': WHATEVER THE INPUT: true; the input reads as it did. -/
def codeOnesSpec : ChangeSpec := { name := "codeOnes", fn := fun _ => fun
  | [d1, d2, d3] => { results := [.lit (.bool true)], args := [d1, d2, d3] }
  | _ => none }
def codeOnesRow : OpenClaim := { program := "ytbjfmkdjnglgbaa", sum := "237dc8bc39baf4296aa6714dba121cf092ca3be607658fb5431fd43c50007a32", func := "octavo/octavolaw10.CodeOnes", spec := "codeOnes", unfollowed := true, recurses := true, apart := false }
def CodeOnesSaid : Prop := codeOnesRow.holds Try.pinned (OpenSpec.ofChange codeOnesSpec)

/-- ITS FALSE NEIGHBOUR: 'it returns false'. Refute it at one input. -/
def codeOnesWrong : ChangeSpec := { name := "codeOnes", fn := fun _ => fun
  | [d1, d2, d3] => { results := [.lit (.bool false)], args := [d1, d2, d3] }
  | _ => none }
def CodeOnesWrongFalsely : Prop := codeOnesRow.holds Try.pinned (OpenSpec.ofChange codeOnesWrong)

/-- 'octavolaw10.CodeNames': WHATEVER THE INPUT: true; the input reads as it did. -/
def codeNamesSpec : ChangeSpec := { name := "codeNames", fn := fun _ => fun
  | [] => { results := [.lit (.bool true)], args := [] }
  | _ => none }
def codeNamesRow : OpenClaim := { program := "ytbjfmkdjnglgbaa", sum := "237dc8bc39baf4296aa6714dba121cf092ca3be607658fb5431fd43c50007a32", func := "octavo/octavolaw10.CodeNames", spec := "codeNames", unfollowed := true, recurses := true, apart := false }
def CodeNamesSaid : Prop := codeNamesRow.holds Try.pinned (OpenSpec.ofChange codeNamesSpec)

/-- ITS FALSE NEIGHBOUR: 'it returns false'. Refute it at one input. -/
def codeNamesWrong : ChangeSpec := { name := "codeNames", fn := fun _ => fun
  | [] => { results := [.lit (.bool false)], args := [] }
  | _ => none }
def CodeNamesWrongFalsely : Prop := codeNamesRow.holds Try.pinned (OpenSpec.ofChange codeNamesWrong)

/-- 'octavolaw10.CodeBack': WHATEVER THE INPUT: true; the input reads as it did. -/
def codeBackSpec : ChangeSpec := { name := "codeBack", fn := fun _ => fun
  | [d1, d2] => { results := [.lit (.bool true)], args := [d1, d2] }
  | _ => none }
def codeBackRow : OpenClaim := { program := "ytbjfmkdjnglgbaa", sum := "237dc8bc39baf4296aa6714dba121cf092ca3be607658fb5431fd43c50007a32", func := "octavo/octavolaw10.CodeBack", spec := "codeBack", unfollowed := true, recurses := true, apart := false }
def CodeBackSaid : Prop := codeBackRow.holds Try.pinned (OpenSpec.ofChange codeBackSpec)

/-- ITS FALSE NEIGHBOUR: 'it returns false'. Refute it at one input. -/
def codeBackWrong : ChangeSpec := { name := "codeBack", fn := fun _ => fun
  | [d1, d2] => { results := [.lit (.bool false)], args := [d1, d2] }
  | _ => none }
def CodeBackWrongFalsely : Prop := codeBackRow.holds Try.pinned (OpenSpec.ofChange codeBackWrong)

/- THE SECOND FORM. 'bulk': how many values and letters a reading holds, each counted each time it is reached (what is shared counts as often as it is met; a slice's spare places count too). A statement '..UptoSaid' is the law's where the arguments, and the package variables that the reading takes, are together of bulk at most 1048576: NARROWER than '..Said'. Prove '..Said' where nothing that the law and all that it calls make is longer than what came in: it says more and counts as full. Else prove '..UptoSaid'. A law counts once. -/
mutual
def uptoBulk {H : Type} : DataW H → Nat
  | .lit (.string bytes) => bytes.length + 1
  | .lit _ => 1
  | .nil => 1
  | .ptr d => uptoBulk d + 1
  | .slice elems spare => uptoBulkAll elems + uptoBulkAll spare + 1
  | .agg parts => uptoBulkAll parts + 1
  | .iface _ d => uptoBulk d + 1
  | .map entries => uptoBulkEntries entries + 1
  | .held _ => 1
def uptoBulkAll {H : Type} : List (DataW H) → Nat
  | [] => 0
  | d :: r => uptoBulk d + uptoBulkAll r
def uptoBulkEntries {H : Type} : List (Lit × DataW H) → Nat
  | [] => 0
  | x :: r => uptoBulkEntry x + uptoBulkEntries r
def uptoBulkEntry {H : Type} : Lit × DataW H → Nat
  | (.string bytes, d) => bytes.length + uptoBulk d + 1
  | (_, d) => uptoBulk d + 1
 end
def uptoSmall : (H : Type) → List (DataW H) → Bool := fun _ ds => decide (uptoBulkAll ds ≤ 1048576)
def OpenSpec.upto (s : _root_.Go.ChangeSpec) : _root_.Go.OpenSpec := { _root_.Go.OpenSpec.ofChange s with cond := some uptoSmall }

/-- 'octavolaw06.PlaceUnder', WHERE WHAT IT READS IS OF BULK AT MOST 1048576: true; the input reads as it did. -/
def placeUnderUptoRow : OpenClaim := { program := "ytbjfmkdjnglgbaa", sum := "237dc8bc39baf4296aa6714dba121cf092ca3be607658fb5431fd43c50007a32", func := "octavo/octavolaw06.PlaceUnder", spec := "placeUnder", apart := false, narrowed := true }
def PlaceUnderUptoSaid : Prop := placeUnderUptoRow.holds Try.pinned (OpenSpec.upto placeUnderSpec)

/-- 'octavolaw09.OpKinds', WHERE WHAT IT READS IS OF BULK AT MOST 1048576: true; the input reads as it did. -/
def opKindsUptoRow : OpenClaim := { program := "ytbjfmkdjnglgbaa", sum := "237dc8bc39baf4296aa6714dba121cf092ca3be607658fb5431fd43c50007a32", func := "octavo/octavolaw09.OpKinds", spec := "opKinds", unfollowed := true, recurses := true, apart := false, narrowed := true }
def OpKindsUptoSaid : Prop := opKindsUptoRow.holds Try.pinned (OpenSpec.upto opKindsSpec)

/-- 'octavolaw09.OpNames', WHERE WHAT IT READS IS OF BULK AT MOST 1048576: true; the input reads as it did. -/
def opNamesUptoRow : OpenClaim := { program := "ytbjfmkdjnglgbaa", sum := "237dc8bc39baf4296aa6714dba121cf092ca3be607658fb5431fd43c50007a32", func := "octavo/octavolaw09.OpNames", spec := "opNames", unfollowed := true, recurses := true, apart := false, narrowed := true }
def OpNamesUptoSaid : Prop := opNamesUptoRow.holds Try.pinned (OpenSpec.upto opNamesSpec)

/-- 'octavolaw06.PlaceTells', WHERE WHAT IT READS IS OF BULK AT MOST 1048576: true; the input reads as it did. -/
def placeTellsUptoRow : OpenClaim := { program := "ytbjfmkdjnglgbaa", sum := "237dc8bc39baf4296aa6714dba121cf092ca3be607658fb5431fd43c50007a32", func := "octavo/octavolaw06.PlaceTells", spec := "placeTells", apart := false, narrowed := true }
def PlaceTellsUptoSaid : Prop := placeTellsUptoRow.holds Try.pinned (OpenSpec.upto placeTellsSpec)

/-- 'octavolaw06.PlaceNames', WHERE WHAT IT READS IS OF BULK AT MOST 1048576: true; the input reads as it did. -/
def placeNamesUptoRow : OpenClaim := { program := "ytbjfmkdjnglgbaa", sum := "237dc8bc39baf4296aa6714dba121cf092ca3be607658fb5431fd43c50007a32", func := "octavo/octavolaw06.PlaceNames", spec := "placeNames", apart := false, narrowed := true }
def PlaceNamesUptoSaid : Prop := placeNamesUptoRow.holds Try.pinned (OpenSpec.upto placeNamesSpec)

/-- 'octavolaw06.PlaceOrder', WHERE WHAT IT READS IS OF BULK AT MOST 1048576: true; the input reads as it did. -/
def placeOrderUptoRow : OpenClaim := { program := "ytbjfmkdjnglgbaa", sum := "237dc8bc39baf4296aa6714dba121cf092ca3be607658fb5431fd43c50007a32", func := "octavo/octavolaw06.PlaceOrder", spec := "placeOrder", apart := false, narrowed := true }
def PlaceOrderUptoSaid : Prop := placeOrderUptoRow.holds Try.pinned (OpenSpec.upto placeOrderSpec)

/-- 'octavolaw06.PlaceChild', WHERE WHAT IT READS IS OF BULK AT MOST 1048576: true; the input reads as it did. -/
def placeChildUptoRow : OpenClaim := { program := "ytbjfmkdjnglgbaa", sum := "237dc8bc39baf4296aa6714dba121cf092ca3be607658fb5431fd43c50007a32", func := "octavo/octavolaw06.PlaceChild", spec := "placeChild", apart := false, narrowed := true }
def PlaceChildUptoSaid : Prop := placeChildUptoRow.holds Try.pinned (OpenSpec.upto placeChildSpec)

/-- 'octavolaw09.OpTells', WHERE WHAT IT READS IS OF BULK AT MOST 1048576: true; the input reads as it did. -/
def opTellsUptoRow : OpenClaim := { program := "ytbjfmkdjnglgbaa", sum := "237dc8bc39baf4296aa6714dba121cf092ca3be607658fb5431fd43c50007a32", func := "octavo/octavolaw09.OpTells", spec := "opTells", unfollowed := true, recurses := true, apart := false, narrowed := true }
def OpTellsUptoSaid : Prop := opTellsUptoRow.holds Try.pinned (OpenSpec.upto opTellsSpec)

/-- 'octavolaw06.PlaceIds', WHERE WHAT IT READS IS OF BULK AT MOST 1048576: true; the input reads as it did. -/
def placeIdsUptoRow : OpenClaim := { program := "ytbjfmkdjnglgbaa", sum := "237dc8bc39baf4296aa6714dba121cf092ca3be607658fb5431fd43c50007a32", func := "octavo/octavolaw06.PlaceIds", spec := "placeIds", apart := false, narrowed := true }
def PlaceIdsUptoSaid : Prop := placeIdsUptoRow.holds Try.pinned (OpenSpec.upto placeIdsSpec)

/-- 'octavolaw09.OpNeeds', WHERE WHAT IT READS IS OF BULK AT MOST 1048576: true; the input reads as it did. -/
def opNeedsUptoRow : OpenClaim := { program := "ytbjfmkdjnglgbaa", sum := "237dc8bc39baf4296aa6714dba121cf092ca3be607658fb5431fd43c50007a32", func := "octavo/octavolaw09.OpNeeds", spec := "opNeeds", unfollowed := true, recurses := true, apart := false, narrowed := true }
def OpNeedsUptoSaid : Prop := opNeedsUptoRow.holds Try.pinned (OpenSpec.upto opNeedsSpec)

/-- 'octavolaw18.WeighBounds', WHERE WHAT IT READS IS OF BULK AT MOST 1048576: true; the input reads as it did. -/
def weighBoundsUptoRow : OpenClaim := { program := "ytbjfmkdjnglgbaa", sum := "237dc8bc39baf4296aa6714dba121cf092ca3be607658fb5431fd43c50007a32", func := "octavo/octavolaw18.WeighBounds", spec := "weighBounds", unfollowed := true, recurses := true, apart := false, narrowed := true }
def WeighBoundsUptoSaid : Prop := weighBoundsUptoRow.holds Try.pinned (OpenSpec.upto weighBoundsSpec)

/-- 'octavolaw10.CodeOne', WHERE WHAT IT READS IS OF BULK AT MOST 1048576: true; the input reads as it did. -/
def codeOneUptoRow : OpenClaim := { program := "ytbjfmkdjnglgbaa", sum := "237dc8bc39baf4296aa6714dba121cf092ca3be607658fb5431fd43c50007a32", func := "octavo/octavolaw10.CodeOne", spec := "codeOne", unfollowed := true, recurses := true, apart := false, narrowed := true }
def CodeOneUptoSaid : Prop := codeOneUptoRow.holds Try.pinned (OpenSpec.upto codeOneSpec)

/-- 'octavolaw18.WeighNames', WHERE WHAT IT READS IS OF BULK AT MOST 1048576: true; the input reads as it did. -/
def weighNamesUptoRow : OpenClaim := { program := "ytbjfmkdjnglgbaa", sum := "237dc8bc39baf4296aa6714dba121cf092ca3be607658fb5431fd43c50007a32", func := "octavo/octavolaw18.WeighNames", spec := "weighNames", unfollowed := true, recurses := true, apart := false, narrowed := true }
def WeighNamesUptoSaid : Prop := weighNamesUptoRow.holds Try.pinned (OpenSpec.upto weighNamesSpec)

/-- 'octavolaw18.WeighTells', WHERE WHAT IT READS IS OF BULK AT MOST 1048576: true; the input reads as it did. -/
def weighTellsUptoRow : OpenClaim := { program := "ytbjfmkdjnglgbaa", sum := "237dc8bc39baf4296aa6714dba121cf092ca3be607658fb5431fd43c50007a32", func := "octavo/octavolaw18.WeighTells", spec := "weighTells", unfollowed := true, recurses := true, apart := false, narrowed := true }
def WeighTellsUptoSaid : Prop := weighTellsUptoRow.holds Try.pinned (OpenSpec.upto weighTellsSpec)

/-- 'octavolaw18.WeighPieces', WHERE WHAT IT READS IS OF BULK AT MOST 1048576: true; the input reads as it did. -/
def weighPiecesUptoRow : OpenClaim := { program := "ytbjfmkdjnglgbaa", sum := "237dc8bc39baf4296aa6714dba121cf092ca3be607658fb5431fd43c50007a32", func := "octavo/octavolaw18.WeighPieces", spec := "weighPieces", unfollowed := true, recurses := true, apart := false, narrowed := true }
def WeighPiecesUptoSaid : Prop := weighPiecesUptoRow.holds Try.pinned (OpenSpec.upto weighPiecesSpec)

/-- 'octavolaw10.CodeList', WHERE WHAT IT READS IS OF BULK AT MOST 1048576: true; the input reads as it did. -/
def codeListUptoRow : OpenClaim := { program := "ytbjfmkdjnglgbaa", sum := "237dc8bc39baf4296aa6714dba121cf092ca3be607658fb5431fd43c50007a32", func := "octavo/octavolaw10.CodeList", spec := "codeList", unfollowed := true, recurses := true, apart := false, narrowed := true }
def CodeListUptoSaid : Prop := codeListUptoRow.holds Try.pinned (OpenSpec.upto codeListSpec)

/-- 'octavolaw10.CodeOnes', WHERE WHAT IT READS IS OF BULK AT MOST 1048576: true; the input reads as it did. -/
def codeOnesUptoRow : OpenClaim := { program := "ytbjfmkdjnglgbaa", sum := "237dc8bc39baf4296aa6714dba121cf092ca3be607658fb5431fd43c50007a32", func := "octavo/octavolaw10.CodeOnes", spec := "codeOnes", unfollowed := true, recurses := true, apart := false, narrowed := true }
def CodeOnesUptoSaid : Prop := codeOnesUptoRow.holds Try.pinned (OpenSpec.upto codeOnesSpec)

/-- 'octavolaw10.CodeNames', WHERE WHAT IT READS IS OF BULK AT MOST 1048576: true; the input reads as it did. -/
def codeNamesUptoRow : OpenClaim := { program := "ytbjfmkdjnglgbaa", sum := "237dc8bc39baf4296aa6714dba121cf092ca3be607658fb5431fd43c50007a32", func := "octavo/octavolaw10.CodeNames", spec := "codeNames", unfollowed := true, recurses := true, apart := false, narrowed := true }
def CodeNamesUptoSaid : Prop := codeNamesUptoRow.holds Try.pinned (OpenSpec.upto codeNamesSpec)

/-- 'octavolaw10.CodeBack', WHERE WHAT IT READS IS OF BULK AT MOST 1048576: true; the input reads as it did. -/
def codeBackUptoRow : OpenClaim := { program := "ytbjfmkdjnglgbaa", sum := "237dc8bc39baf4296aa6714dba121cf092ca3be607658fb5431fd43c50007a32", func := "octavo/octavolaw10.CodeBack", spec := "codeBack", unfollowed := true, recurses := true, apart := false, narrowed := true }
def CodeBackUptoSaid : Prop := codeBackUptoRow.holds Try.pinned (OpenSpec.upto codeBackSpec)

end Rows
end Go.Proofs.Ytbjfmkdjnglgbaa
