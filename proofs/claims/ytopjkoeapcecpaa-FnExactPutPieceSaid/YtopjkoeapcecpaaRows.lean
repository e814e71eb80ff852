/-
  No cell of these rows narrows 'for every input' (looked for: loops, veiled, ifaces, maps, wideKeys, modest, calm, conditions, laid).
  DERIVED. THE GIVEN ROWS OF THIS SEAT. 16 by the template 'for every input the law returns true; each argument reads behind the call as it read before'; 0 by the template 'total and deterministic' (their statements: YtopjkoeapcecpaaTotals.lean).
  GIVEN WITH THE SEED: the statements are not yours to turn. If you find one false, say at which input.
  Laid BY PROGRAM, IN A SANDBOX (cutbox-rows.mjs): the forced cells as the released guide's own fill.sh prints them over the translation f688bb6ddcfd440e… (all of the seat's roots in one cut). By AI agents, Wed Nov 11 2026. No macro, syntax, notation, axiom, sorry.
-/
import Derived.Test.YtopjkoeapcecpaaChecked
import GoSem.Claim
import GoSem.ClaimJoined
import GoSem.ClaimMapViews
import Derived.JoinedTies
import Derived.KernelRfl
namespace Go.Proofs.Ytopjkoeapcecpaa
/- THE CELL 'sum', in the pinned program and in every row, IS THE sha256 OF THE DUMP (.gsa) THAT YtopjkoeapcecpaaProg.lean LOADS. Nothing in Lean hashes anything: it is a label: what it is worth is what the hold of that sum in a sandbox is worth. -/
noncomputable def Try.pinned : Pinned := { name := "ytopjkoeapcecpaa", sum := "f688bb6ddcfd440e583b59bf98872931ee58f8e437164dff5b9a5943e8e974e9", checked := Try.checked }
namespace Rows
def none {H : Type} : Left H := { results := [], args := [] }

/-- 'laws.FnExactArePieces': WHATEVER THE INPUT: true; the input reads as it did. -/
def fnExactArePiecesSpec : ChangeSpec := { name := "fnExactArePieces", fn := fun _ => fun
  | [d] => { results := [.lit (.bool true)], args := [d] }
  | _ => none }
def fnExactArePiecesRow : OpenClaim := { program := "ytopjkoeapcecpaa", sum := "f688bb6ddcfd440e583b59bf98872931ee58f8e437164dff5b9a5943e8e974e9", func := "loop.example/g01305/laws.FnExactArePieces", spec := "fnExactArePieces", unfollowed := true, recurses := true, apart := false }
def FnExactArePiecesSaid : Prop := fnExactArePiecesRow.holds Try.pinned (OpenSpec.ofChange fnExactArePiecesSpec)

/-- ITS FALSE NEIGHBOUR: 'it returns false'. Refute it at one input. -/
def fnExactArePiecesWrong : ChangeSpec := { name := "fnExactArePieces", fn := fun _ => fun
  | [d] => { results := [.lit (.bool false)], args := [d] }
  | _ => none }
def FnExactArePiecesWrongFalsely : Prop := fnExactArePiecesRow.holds Try.pinned (OpenSpec.ofChange fnExactArePiecesWrong)

/-- 'laws.FnExactSumOfPieces': WHATEVER THE INPUT: true; the input reads as it did. -/
def fnExactSumOfPiecesSpec : ChangeSpec := { name := "fnExactSumOfPieces", fn := fun _ => fun
  | [d] => { results := [.lit (.bool true)], args := [d] }
  | _ => none }
def fnExactSumOfPiecesRow : OpenClaim := { program := "ytopjkoeapcecpaa", sum := "f688bb6ddcfd440e583b59bf98872931ee58f8e437164dff5b9a5943e8e974e9", func := "loop.example/g01305/laws.FnExactSumOfPieces", spec := "fnExactSumOfPieces", unfollowed := true, recurses := true, apart := false }
def FnExactSumOfPiecesSaid : Prop := fnExactSumOfPiecesRow.holds Try.pinned (OpenSpec.ofChange fnExactSumOfPiecesSpec)

/-- ITS FALSE NEIGHBOUR: 'it returns false'. Refute it at one input. -/
def fnExactSumOfPiecesWrong : ChangeSpec := { name := "fnExactSumOfPieces", fn := fun _ => fun
  | [d] => { results := [.lit (.bool false)], args := [d] }
  | _ => none }
def FnExactSumOfPiecesWrongFalsely : Prop := fnExactSumOfPiecesRow.holds Try.pinned (OpenSpec.ofChange fnExactSumOfPiecesWrong)

/-- 'laws.FnExactRunOf': WHATEVER THE INPUT: true; the input reads as it did. -/
def fnExactRunOfSpec : ChangeSpec := { name := "fnExactRunOf", fn := fun _ => fun
  | [d] => { results := [.lit (.bool true)], args := [d] }
  | _ => none }
def fnExactRunOfRow : OpenClaim := { program := "ytopjkoeapcecpaa", sum := "f688bb6ddcfd440e583b59bf98872931ee58f8e437164dff5b9a5943e8e974e9", func := "loop.example/g01305/laws.FnExactRunOf", spec := "fnExactRunOf", unfollowed := true, recurses := true, apart := false }
def FnExactRunOfSaid : Prop := fnExactRunOfRow.holds Try.pinned (OpenSpec.ofChange fnExactRunOfSpec)

/-- ITS FALSE NEIGHBOUR: 'it returns false'. Refute it at one input. -/
def fnExactRunOfWrong : ChangeSpec := { name := "fnExactRunOf", fn := fun _ => fun
  | [d] => { results := [.lit (.bool false)], args := [d] }
  | _ => none }
def FnExactRunOfWrongFalsely : Prop := fnExactRunOfRow.holds Try.pinned (OpenSpec.ofChange fnExactRunOfWrong)

/-- 'laws.FnExactBestNext': WHATEVER THE INPUT: true; the input reads as it did. -/
def fnExactBestNextSpec : ChangeSpec := { name := "fnExactBestNext", fn := fun _ => fun
  | [d] => { results := [.lit (.bool true)], args := [d] }
  | _ => none }
def fnExactBestNextRow : OpenClaim := { program := "ytopjkoeapcecpaa", sum := "f688bb6ddcfd440e583b59bf98872931ee58f8e437164dff5b9a5943e8e974e9", func := "loop.example/g01305/laws.FnExactBestNext", spec := "fnExactBestNext", unfollowed := true, recurses := true, apart := false }
def FnExactBestNextSaid : Prop := fnExactBestNextRow.holds Try.pinned (OpenSpec.ofChange fnExactBestNextSpec)

/-- ITS FALSE NEIGHBOUR: 'it returns false'. Refute it at one input. -/
def fnExactBestNextWrong : ChangeSpec := { name := "fnExactBestNext", fn := fun _ => fun
  | [d] => { results := [.lit (.bool false)], args := [d] }
  | _ => none }
def FnExactBestNextWrongFalsely : Prop := fnExactBestNextRow.holds Try.pinned (OpenSpec.ofChange fnExactBestNextWrong)

/-- 'laws.FnExactWaysOf': WHATEVER THE INPUT: true; the input reads as it did. -/
def fnExactWaysOfSpec : ChangeSpec := { name := "fnExactWaysOf", fn := fun _ => fun
  | [d1, d2] => { results := [.lit (.bool true)], args := [d1, d2] }
  | _ => none }
def fnExactWaysOfRow : OpenClaim := { program := "ytopjkoeapcecpaa", sum := "f688bb6ddcfd440e583b59bf98872931ee58f8e437164dff5b9a5943e8e974e9", func := "loop.example/g01305/laws.FnExactWaysOf", spec := "fnExactWaysOf", unfollowed := true, recurses := true, apart := false }
def FnExactWaysOfSaid : Prop := fnExactWaysOfRow.holds Try.pinned (OpenSpec.ofChange fnExactWaysOfSpec)

/-- ITS FALSE NEIGHBOUR: 'it returns false'. Refute it at one input. -/
def fnExactWaysOfWrong : ChangeSpec := { name := "fnExactWaysOf", fn := fun _ => fun
  | [d1, d2] => { results := [.lit (.bool false)], args := [d1, d2] }
  | _ => none }
def FnExactWaysOfWrongFalsely : Prop := fnExactWaysOfRow.holds Try.pinned (OpenSpec.ofChange fnExactWaysOfWrong)

/-- 'laws.FnExactCountSums': WHATEVER THE INPUT: true; the input reads as it did. -/
def fnExactCountSumsSpec : ChangeSpec := { name := "fnExactCountSums", fn := fun _ => fun
  | [d] => { results := [.lit (.bool true)], args := [d] }
  | _ => none }
def fnExactCountSumsRow : OpenClaim := { program := "ytopjkoeapcecpaa", sum := "f688bb6ddcfd440e583b59bf98872931ee58f8e437164dff5b9a5943e8e974e9", func := "loop.example/g01305/laws.FnExactCountSums", spec := "fnExactCountSums", unfollowed := true, recurses := true, apart := false }
def FnExactCountSumsSaid : Prop := fnExactCountSumsRow.holds Try.pinned (OpenSpec.ofChange fnExactCountSumsSpec)

/-- ITS FALSE NEIGHBOUR: 'it returns false'. Refute it at one input. -/
def fnExactCountSumsWrong : ChangeSpec := { name := "fnExactCountSums", fn := fun _ => fun
  | [d] => { results := [.lit (.bool false)], args := [d] }
  | _ => none }
def FnExactCountSumsWrongFalsely : Prop := fnExactCountSumsRow.holds Try.pinned (OpenSpec.ofChange fnExactCountSumsWrong)

/-- 'laws.FnExactCanMake': WHATEVER THE INPUT: true; the input reads as it did. -/
def fnExactCanMakeSpec : ChangeSpec := { name := "fnExactCanMake", fn := fun _ => fun
  | [d1, d2] => { results := [.lit (.bool true)], args := [d1, d2] }
  | _ => none }
def fnExactCanMakeRow : OpenClaim := { program := "ytopjkoeapcecpaa", sum := "f688bb6ddcfd440e583b59bf98872931ee58f8e437164dff5b9a5943e8e974e9", func := "loop.example/g01305/laws.FnExactCanMake", spec := "fnExactCanMake", unfollowed := true, recurses := true, apart := false }
def FnExactCanMakeSaid : Prop := fnExactCanMakeRow.holds Try.pinned (OpenSpec.ofChange fnExactCanMakeSpec)

/-- ITS FALSE NEIGHBOUR: 'it returns false'. Refute it at one input. -/
def fnExactCanMakeWrong : ChangeSpec := { name := "fnExactCanMake", fn := fun _ => fun
  | [d1, d2] => { results := [.lit (.bool false)], args := [d1, d2] }
  | _ => none }
def FnExactCanMakeWrongFalsely : Prop := fnExactCanMakeRow.holds Try.pinned (OpenSpec.ofChange fnExactCanMakeWrong)

/-- 'laws.FnExactSumsOf': WHATEVER THE INPUT: true; the input reads as it did. -/
def fnExactSumsOfSpec : ChangeSpec := { name := "fnExactSumsOf", fn := fun _ => fun
  | [d] => { results := [.lit (.bool true)], args := [d] }
  | _ => none }
def fnExactSumsOfRow : OpenClaim := { program := "ytopjkoeapcecpaa", sum := "f688bb6ddcfd440e583b59bf98872931ee58f8e437164dff5b9a5943e8e974e9", func := "loop.example/g01305/laws.FnExactSumsOf", spec := "fnExactSumsOf", unfollowed := true, recurses := true, apart := false }
def FnExactSumsOfSaid : Prop := fnExactSumsOfRow.holds Try.pinned (OpenSpec.ofChange fnExactSumsOfSpec)

/-- ITS FALSE NEIGHBOUR: 'it returns false'. Refute it at one input. -/
def fnExactSumsOfWrong : ChangeSpec := { name := "fnExactSumsOf", fn := fun _ => fun
  | [d] => { results := [.lit (.bool false)], args := [d] }
  | _ => none }
def FnExactSumsOfWrongFalsely : Prop := fnExactSumsOfRow.holds Try.pinned (OpenSpec.ofChange fnExactSumsOfWrong)

/-- 'laws.FnExactClosestSum': WHATEVER THE INPUT: true; the input reads as it did. -/
def fnExactClosestSumSpec : ChangeSpec := { name := "fnExactClosestSum", fn := fun _ => fun
  | [d1, d2] => { results := [.lit (.bool true)], args := [d1, d2] }
  | _ => none }
def fnExactClosestSumRow : OpenClaim := { program := "ytopjkoeapcecpaa", sum := "f688bb6ddcfd440e583b59bf98872931ee58f8e437164dff5b9a5943e8e974e9", func := "loop.example/g01305/laws.FnExactClosestSum", spec := "fnExactClosestSum", unfollowed := true, recurses := true, apart := false }
def FnExactClosestSumSaid : Prop := fnExactClosestSumRow.holds Try.pinned (OpenSpec.ofChange fnExactClosestSumSpec)

/-- ITS FALSE NEIGHBOUR: 'it returns false'. Refute it at one input. -/
def fnExactClosestSumWrong : ChangeSpec := { name := "fnExactClosestSum", fn := fun _ => fun
  | [d1, d2] => { results := [.lit (.bool false)], args := [d1, d2] }
  | _ => none }
def FnExactClosestSumWrongFalsely : Prop := fnExactClosestSumRow.holds Try.pinned (OpenSpec.ofChange fnExactClosestSumWrong)

/-- 'laws.FnExactGapsOf': WHATEVER THE INPUT: true; the input reads as it did. -/
def fnExactGapsOfSpec : ChangeSpec := { name := "fnExactGapsOf", fn := fun _ => fun
  | [d] => { results := [.lit (.bool true)], args := [d] }
  | _ => none }
def fnExactGapsOfRow : OpenClaim := { program := "ytopjkoeapcecpaa", sum := "f688bb6ddcfd440e583b59bf98872931ee58f8e437164dff5b9a5943e8e974e9", func := "loop.example/g01305/laws.FnExactGapsOf", spec := "fnExactGapsOf", unfollowed := true, recurses := true, apart := false }
def FnExactGapsOfSaid : Prop := fnExactGapsOfRow.holds Try.pinned (OpenSpec.ofChange fnExactGapsOfSpec)

/-- ITS FALSE NEIGHBOUR: 'it returns false'. Refute it at one input. -/
def fnExactGapsOfWrong : ChangeSpec := { name := "fnExactGapsOf", fn := fun _ => fun
  | [d] => { results := [.lit (.bool false)], args := [d] }
  | _ => none }
def FnExactGapsOfWrongFalsely : Prop := fnExactGapsOfRow.holds Try.pinned (OpenSpec.ofChange fnExactGapsOfWrong)

/-- 'laws.FnExactFewestFor': WHATEVER THE INPUT: true; the input reads as it did. -/
def fnExactFewestForSpec : ChangeSpec := { name := "fnExactFewestFor", fn := fun _ => fun
  | [d1, d2] => { results := [.lit (.bool true)], args := [d1, d2] }
  | _ => none }
def fnExactFewestForRow : OpenClaim := { program := "ytopjkoeapcecpaa", sum := "f688bb6ddcfd440e583b59bf98872931ee58f8e437164dff5b9a5943e8e974e9", func := "loop.example/g01305/laws.FnExactFewestFor", spec := "fnExactFewestFor", unfollowed := true, recurses := true, apart := false }
def FnExactFewestForSaid : Prop := fnExactFewestForRow.holds Try.pinned (OpenSpec.ofChange fnExactFewestForSpec)

/-- ITS FALSE NEIGHBOUR: 'it returns false'. Refute it at one input. -/
def fnExactFewestForWrong : ChangeSpec := { name := "fnExactFewestFor", fn := fun _ => fun
  | [d1, d2] => { results := [.lit (.bool false)], args := [d1, d2] }
  | _ => none }
def FnExactFewestForWrongFalsely : Prop := fnExactFewestForRow.holds Try.pinned (OpenSpec.ofChange fnExactFewestForWrong)

/-- 'laws.FnExactHalfOf': WHATEVER THE INPUT: true; the input reads as it did. -/
def fnExactHalfOfSpec : ChangeSpec := { name := "fnExactHalfOf", fn := fun _ => fun
  | [d] => { results := [.lit (.bool true)], args := [d] }
  | _ => none }
def fnExactHalfOfRow : OpenClaim := { program := "ytopjkoeapcecpaa", sum := "f688bb6ddcfd440e583b59bf98872931ee58f8e437164dff5b9a5943e8e974e9", func := "loop.example/g01305/laws.FnExactHalfOf", spec := "fnExactHalfOf", unfollowed := true, recurses := true, apart := false }
def FnExactHalfOfSaid : Prop := fnExactHalfOfRow.holds Try.pinned (OpenSpec.ofChange fnExactHalfOfSpec)

/-- ITS FALSE NEIGHBOUR: 'it returns false'. Refute it at one input. -/
def fnExactHalfOfWrong : ChangeSpec := { name := "fnExactHalfOf", fn := fun _ => fun
  | [d] => { results := [.lit (.bool false)], args := [d] }
  | _ => none }
def FnExactHalfOfWrongFalsely : Prop := fnExactHalfOfRow.holds Try.pinned (OpenSpec.ofChange fnExactHalfOfWrong)

/-- 'laws.FnExactFirstWay': WHATEVER THE INPUT: true; the input reads as it did. -/
def fnExactFirstWaySpec : ChangeSpec := { name := "fnExactFirstWay", fn := fun _ => fun
  | [d1, d2] => { results := [.lit (.bool true)], args := [d1, d2] }
  | _ => none }
def fnExactFirstWayRow : OpenClaim := { program := "ytopjkoeapcecpaa", sum := "f688bb6ddcfd440e583b59bf98872931ee58f8e437164dff5b9a5943e8e974e9", func := "loop.example/g01305/laws.FnExactFirstWay", spec := "fnExactFirstWay", unfollowed := true, recurses := true, apart := false }
def FnExactFirstWaySaid : Prop := fnExactFirstWayRow.holds Try.pinned (OpenSpec.ofChange fnExactFirstWaySpec)

/-- ITS FALSE NEIGHBOUR: 'it returns false'. Refute it at one input. -/
def fnExactFirstWayWrong : ChangeSpec := { name := "fnExactFirstWay", fn := fun _ => fun
  | [d1, d2] => { results := [.lit (.bool false)], args := [d1, d2] }
  | _ => none }
def FnExactFirstWayWrongFalsely : Prop := fnExactFirstWayRow.holds Try.pinned (OpenSpec.ofChange fnExactFirstWayWrong)

/-- 'laws.FnExactTakePiece': WHATEVER THE INPUT: true; the input reads as it did. -/
def fnExactTakePieceSpec : ChangeSpec := { name := "fnExactTakePiece", fn := fun _ => fun
  | [d1, d2] => { results := [.lit (.bool true)], args := [d1, d2] }
  | _ => none }
def fnExactTakePieceRow : OpenClaim := { program := "ytopjkoeapcecpaa", sum := "f688bb6ddcfd440e583b59bf98872931ee58f8e437164dff5b9a5943e8e974e9", func := "loop.example/g01305/laws.FnExactTakePiece", spec := "fnExactTakePiece", unfollowed := true, recurses := true, apart := false }
def FnExactTakePieceSaid : Prop := fnExactTakePieceRow.holds Try.pinned (OpenSpec.ofChange fnExactTakePieceSpec)

/-- ITS FALSE NEIGHBOUR: 'it returns false'. Refute it at one input. -/
def fnExactTakePieceWrong : ChangeSpec := { name := "fnExactTakePiece", fn := fun _ => fun
  | [d1, d2] => { results := [.lit (.bool false)], args := [d1, d2] }
  | _ => none }
def FnExactTakePieceWrongFalsely : Prop := fnExactTakePieceRow.holds Try.pinned (OpenSpec.ofChange fnExactTakePieceWrong)

/-- 'laws.FnExactNeedlessPieces': WHATEVER THE INPUT: true; the input reads as it did. -/
def fnExactNeedlessPiecesSpec : ChangeSpec := { name := "fnExactNeedlessPieces", fn := fun _ => fun
  | [d] => { results := [.lit (.bool true)], args := [d] }
  | _ => none }
def fnExactNeedlessPiecesRow : OpenClaim := { program := "ytopjkoeapcecpaa", sum := "f688bb6ddcfd440e583b59bf98872931ee58f8e437164dff5b9a5943e8e974e9", func := "loop.example/g01305/laws.FnExactNeedlessPieces", spec := "fnExactNeedlessPieces", unfollowed := true, recurses := true, apart := false }
def FnExactNeedlessPiecesSaid : Prop := fnExactNeedlessPiecesRow.holds Try.pinned (OpenSpec.ofChange fnExactNeedlessPiecesSpec)

/-- ITS FALSE NEIGHBOUR: 'it returns false'. Refute it at one input. -/
def fnExactNeedlessPiecesWrong : ChangeSpec := { name := "fnExactNeedlessPieces", fn := fun _ => fun
  | [d] => { results := [.lit (.bool false)], args := [d] }
  | _ => none }
def FnExactNeedlessPiecesWrongFalsely : Prop := fnExactNeedlessPiecesRow.holds Try.pinned (OpenSpec.ofChange fnExactNeedlessPiecesWrong)

/-- 'laws.FnExactPutPiece': WHATEVER THE INPUT: true; the input reads as it did. -/
def fnExactPutPieceSpec : ChangeSpec := { name := "fnExactPutPiece", fn := fun _ => fun
  | [d1, d2] => { results := [.lit (.bool true)], args := [d1, d2] }
  | _ => none }
def fnExactPutPieceRow : OpenClaim := { program := "ytopjkoeapcecpaa", sum := "f688bb6ddcfd440e583b59bf98872931ee58f8e437164dff5b9a5943e8e974e9", func := "loop.example/g01305/laws.FnExactPutPiece", spec := "fnExactPutPiece", unfollowed := true, recurses := true, apart := false }
def FnExactPutPieceSaid : Prop := fnExactPutPieceRow.holds Try.pinned (OpenSpec.ofChange fnExactPutPieceSpec)

/-- ITS FALSE NEIGHBOUR: 'it returns false'. Refute it at one input. -/
def fnExactPutPieceWrong : ChangeSpec := { name := "fnExactPutPiece", fn := fun _ => fun
  | [d1, d2] => { results := [.lit (.bool false)], args := [d1, d2] }
  | _ => none }
def FnExactPutPieceWrongFalsely : Prop := fnExactPutPieceRow.holds Try.pinned (OpenSpec.ofChange fnExactPutPieceWrong)

/- THE SECOND FORM. 'bulk': how many values and letters a reading holds, each counted each time it is reached (what is shared counts as often as it is met; a slice's spare places count too). A statement '..UptoSaid' is the law's where the arguments, and the package variables that the reading takes, are together of bulk at most 1048576: NARROWER than '..Said'. Prove '..Said' where nothing that the law and all that it calls make is longer than what came in: it says more and counts as full. Else prove '..UptoSaid'. A law counts once. -/
mutual
def uptoBulk {H : Type} : DataW H → Nat
  | .lit (.string bytes) => bytes.length + 1
  | .lit _ => 1
  | .nil => 1
  | .ptr d => uptoBulk d + 1
  | .slice elems spare => uptoBulkAll elems + uptoBulkAll spare + 1
  | .agg parts => uptoBulkAll parts + 1
  | .iface _ d => uptoBulk d + 1
  | .map entries => uptoBulkEntries entries + 1
  | .held _ => 1
def uptoBulkAll {H : Type} : List (DataW H) → Nat
  | [] => 0
  | d :: r => uptoBulk d + uptoBulkAll r
def uptoBulkEntries {H : Type} : List (Lit × DataW H) → Nat
  | [] => 0
  | x :: r => uptoBulkEntry x + uptoBulkEntries r
def uptoBulkEntry {H : Type} : Lit × DataW H → Nat
  | (.string bytes, d) => bytes.length + uptoBulk d + 1
  | (_, d) => uptoBulk d + 1
 end
def uptoSmall : (H : Type) → List (DataW H) → Bool := fun _ ds => decide (uptoBulkAll ds ≤ 1048576)
def OpenSpec.upto (s : _root_.Go.ChangeSpec) : _root_.Go.OpenSpec := { _root_.Go.OpenSpec.ofChange s with cond := some uptoSmall }

/-- 'laws.FnExactArePieces', WHERE WHAT IT READS IS OF BULK AT MOST 1048576: true; the input reads as it did. -/
def fnExactArePiecesUptoRow : OpenClaim := { program := "ytopjkoeapcecpaa", sum := "f688bb6ddcfd440e583b59bf98872931ee58f8e437164dff5b9a5943e8e974e9", func := "loop.example/g01305/laws.FnExactArePieces", spec := "fnExactArePieces", unfollowed := true, recurses := true, apart := false, narrowed := true }
def FnExactArePiecesUptoSaid : Prop := fnExactArePiecesUptoRow.holds Try.pinned (OpenSpec.upto fnExactArePiecesSpec)

/-- 'laws.FnExactSumOfPieces', WHERE WHAT IT READS IS OF BULK AT MOST 1048576: true; the input reads as it did. -/
def fnExactSumOfPiecesUptoRow : OpenClaim := { program := "ytopjkoeapcecpaa", sum := "f688bb6ddcfd440e583b59bf98872931ee58f8e437164dff5b9a5943e8e974e9", func := "loop.example/g01305/laws.FnExactSumOfPieces", spec := "fnExactSumOfPieces", unfollowed := true, recurses := true, apart := false, narrowed := true }
def FnExactSumOfPiecesUptoSaid : Prop := fnExactSumOfPiecesUptoRow.holds Try.pinned (OpenSpec.upto fnExactSumOfPiecesSpec)

/-- 'laws.FnExactRunOf', WHERE WHAT IT READS IS OF BULK AT MOST 1048576: true; the input reads as it did. -/
def fnExactRunOfUptoRow : OpenClaim := { program := "ytopjkoeapcecpaa", sum := "f688bb6ddcfd440e583b59bf98872931ee58f8e437164dff5b9a5943e8e974e9", func := "loop.example/g01305/laws.FnExactRunOf", spec := "fnExactRunOf", unfollowed := true, recurses := true, apart := false, narrowed := true }
def FnExactRunOfUptoSaid : Prop := fnExactRunOfUptoRow.holds Try.pinned (OpenSpec.upto fnExactRunOfSpec)

/-- 'laws.FnExactBestNext', WHERE WHAT IT READS IS OF BULK AT MOST 1048576: true; the input reads as it did. -/
def fnExactBestNextUptoRow : OpenClaim := { program := "ytopjkoeapcecpaa", sum := "f688bb6ddcfd440e583b59bf98872931ee58f8e437164dff5b9a5943e8e974e9", func := "loop.example/g01305/laws.FnExactBestNext", spec := "fnExactBestNext", unfollowed := true, recurses := true, apart := false, narrowed := true }
def FnExactBestNextUptoSaid : Prop := fnExactBestNextUptoRow.holds Try.pinned (OpenSpec.upto fnExactBestNextSpec)

/-- 'laws.FnExactWaysOf', WHERE WHAT IT READS IS OF BULK AT MOST 1048576: true; the input reads as it did. -/
def fnExactWaysOfUptoRow : OpenClaim := { program := "ytopjkoeapcecpaa", sum := "f688bb6ddcfd440e583b59bf98872931ee58f8e437164dff5b9a5943e8e974e9", func := "loop.example/g01305/laws.FnExactWaysOf", spec := "fnExactWaysOf", unfollowed := true, recurses := true, apart := false, narrowed := true }
def FnExactWaysOfUptoSaid : Prop := fnExactWaysOfUptoRow.holds Try.pinned (OpenSpec.upto fnExactWaysOfSpec)

/-- 'laws.FnExactCountSums', WHERE WHAT IT READS IS OF BULK AT MOST 1048576: true; the input reads as it did. -/
def fnExactCountSumsUptoRow : OpenClaim := { program := "ytopjkoeapcecpaa", sum := "f688bb6ddcfd440e583b59bf98872931ee58f8e437164dff5b9a5943e8e974e9", func := "loop.example/g01305/laws.FnExactCountSums", spec := "fnExactCountSums", unfollowed := true, recurses := true, apart := false, narrowed := true }
def FnExactCountSumsUptoSaid : Prop := fnExactCountSumsUptoRow.holds Try.pinned (OpenSpec.upto fnExactCountSumsSpec)

/-- 'laws.FnExactCanMake', WHERE WHAT IT READS IS OF BULK AT MOST 1048576: true; the input reads as it did. -/
def fnExactCanMakeUptoRow : OpenClaim := { program := "ytopjkoeapcecpaa", sum := "f688bb6ddcfd440e583b59bf98872931ee58f8e437164dff5b9a5943e8e974e9", func := "loop.example/g01305/laws.FnExactCanMake", spec := "fnExactCanMake", unfollowed := true, recurses := true, apart := false, narrowed := true }
def FnExactCanMakeUptoSaid : Prop := fnExactCanMakeUptoRow.holds Try.pinned (OpenSpec.upto fnExactCanMakeSpec)

/-- 'laws.FnExactSumsOf', WHERE WHAT IT READS IS OF BULK AT MOST 1048576: true; the input reads as it did. -/
def fnExactSumsOfUptoRow : OpenClaim := { program := "ytopjkoeapcecpaa", sum := "f688bb6ddcfd440e583b59bf98872931ee58f8e437164dff5b9a5943e8e974e9", func := "loop.example/g01305/laws.FnExactSumsOf", spec := "fnExactSumsOf", unfollowed := true, recurses := true, apart := false, narrowed := true }
def FnExactSumsOfUptoSaid : Prop := fnExactSumsOfUptoRow.holds Try.pinned (OpenSpec.upto fnExactSumsOfSpec)

/-- 'laws.FnExactClosestSum', WHERE WHAT IT READS IS OF BULK AT MOST 1048576: true; the input reads as it did. -/
def fnExactClosestSumUptoRow : OpenClaim := { program := "ytopjkoeapcecpaa", sum := "f688bb6ddcfd440e583b59bf98872931ee58f8e437164dff5b9a5943e8e974e9", func := "loop.example/g01305/laws.FnExactClosestSum", spec := "fnExactClosestSum", unfollowed := true, recurses := true, apart := false, narrowed := true }
def FnExactClosestSumUptoSaid : Prop := fnExactClosestSumUptoRow.holds Try.pinned (OpenSpec.upto fnExactClosestSumSpec)

/-- 'laws.FnExactGapsOf', WHERE WHAT IT READS IS OF BULK AT MOST 1048576: true; the input reads as it did. -/
def fnExactGapsOfUptoRow : OpenClaim := { program := "ytopjkoeapcecpaa", sum := "f688bb6ddcfd440e583b59bf98872931ee58f8e437164dff5b9a5943e8e974e9", func := "loop.example/g01305/laws.FnExactGapsOf", spec := "fnExactGapsOf", unfollowed := true, recurses := true, apart := false, narrowed := true }
def FnExactGapsOfUptoSaid : Prop := fnExactGapsOfUptoRow.holds Try.pinned (OpenSpec.upto fnExactGapsOfSpec)

/-- 'laws.FnExactFewestFor', WHERE WHAT IT READS IS OF BULK AT MOST 1048576: true; the input reads as it did. -/
def fnExactFewestForUptoRow : OpenClaim := { program := "ytopjkoeapcecpaa", sum := "f688bb6ddcfd440e583b59bf98872931ee58f8e437164dff5b9a5943e8e974e9", func := "loop.example/g01305/laws.FnExactFewestFor", spec := "fnExactFewestFor", unfollowed := true, recurses := true, apart := false, narrowed := true }
def FnExactFewestForUptoSaid : Prop := fnExactFewestForUptoRow.holds Try.pinned (OpenSpec.upto fnExactFewestForSpec)

/-- 'laws.FnExactHalfOf', WHERE WHAT IT READS IS OF BULK AT MOST 1048576: true; the input reads as it did. -/
def fnExactHalfOfUptoRow : OpenClaim := { program := "ytopjkoeapcecpaa", sum := "f688bb6ddcfd440e583b59bf98872931ee58f8e437164dff5b9a5943e8e974e9", func := "loop.example/g01305/laws.FnExactHalfOf", spec := "fnExactHalfOf", unfollowed := true, recurses := true, apart := false, narrowed := true }
def FnExactHalfOfUptoSaid : Prop := fnExactHalfOfUptoRow.holds Try.pinned (OpenSpec.upto fnExactHalfOfSpec)

/-- 'laws.FnExactFirstWay', WHERE WHAT IT READS IS OF BULK AT MOST 1048576: true; the input reads as it did. -/
def fnExactFirstWayUptoRow : OpenClaim := { program := "ytopjkoeapcecpaa", sum := "f688bb6ddcfd440e583b59bf98872931ee58f8e437164dff5b9a5943e8e974e9", func := "loop.example/g01305/laws.FnExactFirstWay", spec := "fnExactFirstWay", unfollowed := true, recurses := true, apart := false, narrowed := true }
def FnExactFirstWayUptoSaid : Prop := fnExactFirstWayUptoRow.holds Try.pinned (OpenSpec.upto fnExactFirstWaySpec)

/-- 'laws.FnExactTakePiece', WHERE WHAT IT READS IS OF BULK AT MOST 1048576: true; the input reads as it did. -/
def fnExactTakePieceUptoRow : OpenClaim := { program := "ytopjkoeapcecpaa", sum := "f688bb6ddcfd440e583b59bf98872931ee58f8e437164dff5b9a5943e8e974e9", func := "loop.example/g01305/laws.FnExactTakePiece", spec := "fnExactTakePiece", unfollowed := true, recurses := true, apart := false, narrowed := true }
def FnExactTakePieceUptoSaid : Prop := fnExactTakePieceUptoRow.holds Try.pinned (OpenSpec.upto fnExactTakePieceSpec)

/-- 'laws.FnExactNeedlessPieces', WHERE WHAT IT READS IS OF BULK AT MOST 1048576: true; the input reads as it did. -/
def fnExactNeedlessPiecesUptoRow : OpenClaim := { program := "ytopjkoeapcecpaa", sum := "f688bb6ddcfd440e583b59bf98872931ee58f8e437164dff5b9a5943e8e974e9", func := "loop.example/g01305/laws.FnExactNeedlessPieces", spec := "fnExactNeedlessPieces", unfollowed := true, recurses := true, apart := false, narrowed := true }
def FnExactNeedlessPiecesUptoSaid : Prop := fnExactNeedlessPiecesUptoRow.holds Try.pinned (OpenSpec.upto fnExactNeedlessPiecesSpec)

/-- 'laws.FnExactPutPiece', WHERE WHAT IT READS IS OF BULK AT MOST 1048576: true; the input reads as it did. -/
def fnExactPutPieceUptoRow : OpenClaim := { program := "ytopjkoeapcecpaa", sum := "f688bb6ddcfd440e583b59bf98872931ee58f8e437164dff5b9a5943e8e974e9", func := "loop.example/g01305/laws.FnExactPutPiece", spec := "fnExactPutPiece", unfollowed := true, recurses := true, apart := false, narrowed := true }
def FnExactPutPieceUptoSaid : Prop := fnExactPutPieceUptoRow.holds Try.pinned (OpenSpec.upto fnExactPutPieceSpec)

end Rows
end Go.Proofs.Ytopjkoeapcecpaa
