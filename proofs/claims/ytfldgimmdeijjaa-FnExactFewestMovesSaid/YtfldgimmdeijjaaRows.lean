/-
  No cell of these rows narrows 'for every input' (looked for: loops, veiled, ifaces, maps, wideKeys, modest, calm, conditions, laid).
  DERIVED. THE GIVEN ROWS OF THIS SEAT. 13 by the template 'for every input the law returns true; each argument reads behind the call as it read before'; 0 by the template 'total and deterministic' (their statements: YtfldgimmdeijjaaTotals.lean).
  GIVEN WITH THE SEED: the statements are not yours to turn. If you find one false, say at which input.
  Laid BY PROGRAM, IN A SANDBOX (cutbox-rows.mjs): the forced cells as the released guide's own fill.sh prints them over the translation 121bdb59c864a726… (all of the seat's roots in one cut). By AI agents, Wed Nov 11 2026. No macro, syntax, notation, axiom, sorry.
-/
import Derived.Test.YtfldgimmdeijjaaChecked
import GoSem.Claim
import GoSem.ClaimJoined
import GoSem.ClaimMapViews
import Derived.JoinedTies
import Derived.KernelRfl
namespace Go.Proofs.Ytfldgimmdeijjaa
/- THE CELL 'sum', in the pinned program and in every row, IS THE sha256 OF THE DUMP (.gsa) THAT YtfldgimmdeijjaaProg.lean LOADS. Nothing in Lean hashes anything: it is a label: what it is worth is what the hold of that sum in a sandbox is worth. -/
noncomputable def Try.pinned : Pinned := { name := "ytfldgimmdeijjaa", sum := "121bdb59c864a7263079d2d855ea42df68803032f0372b30b5812a3ee278be88", checked := Try.checked }
namespace Rows
def none {H : Type} : Left H := { results := [], args := [] }

/-- 'laws.FnExactIsPlan': WHATEVER THE INPUT: true; the input reads as it did. -/
def fnExactIsPlanSpec : ChangeSpec := { name := "fnExactIsPlan", fn := fun _ => fun
  | [d1, d2] => { results := [.lit (.bool true)], args := [d1, d2] }
  | _ => none }
def fnExactIsPlanRow : OpenClaim := { program := "ytfldgimmdeijjaa", sum := "121bdb59c864a7263079d2d855ea42df68803032f0372b30b5812a3ee278be88", func := "loop.example/g01305/laws.FnExactIsPlan", spec := "fnExactIsPlan", unfollowed := true, recurses := true, apart := false }
def FnExactIsPlanSaid : Prop := fnExactIsPlanRow.holds Try.pinned (OpenSpec.ofChange fnExactIsPlanSpec)

/-- ITS FALSE NEIGHBOUR: 'it returns false'. Refute it at one input. -/
def fnExactIsPlanWrong : ChangeSpec := { name := "fnExactIsPlan", fn := fun _ => fun
  | [d1, d2] => { results := [.lit (.bool false)], args := [d1, d2] }
  | _ => none }
def FnExactIsPlanWrongFalsely : Prop := fnExactIsPlanRow.holds Try.pinned (OpenSpec.ofChange fnExactIsPlanWrong)

/-- 'laws.FnExactHeldAt': WHATEVER THE INPUT: true; the input reads as it did. -/
def fnExactHeldAtSpec : ChangeSpec := { name := "fnExactHeldAt", fn := fun _ => fun
  | [d1, d2, d3] => { results := [.lit (.bool true)], args := [d1, d2, d3] }
  | _ => none }
def fnExactHeldAtRow : OpenClaim := { program := "ytfldgimmdeijjaa", sum := "121bdb59c864a7263079d2d855ea42df68803032f0372b30b5812a3ee278be88", func := "loop.example/g01305/laws.FnExactHeldAt", spec := "fnExactHeldAt", unfollowed := true, recurses := true, apart := false }
def FnExactHeldAtSaid : Prop := fnExactHeldAtRow.holds Try.pinned (OpenSpec.ofChange fnExactHeldAtSpec)

/-- ITS FALSE NEIGHBOUR: 'it returns false'. Refute it at one input. -/
def fnExactHeldAtWrong : ChangeSpec := { name := "fnExactHeldAt", fn := fun _ => fun
  | [d1, d2, d3] => { results := [.lit (.bool false)], args := [d1, d2, d3] }
  | _ => none }
def FnExactHeldAtWrongFalsely : Prop := fnExactHeldAtRow.holds Try.pinned (OpenSpec.ofChange fnExactHeldAtWrong)

/-- 'laws.FnExactMovesOnDay': WHATEVER THE INPUT: true; the input reads as it did. -/
def fnExactMovesOnDaySpec : ChangeSpec := { name := "fnExactMovesOnDay", fn := fun _ => fun
  | [d1, d2, d3] => { results := [.lit (.bool true)], args := [d1, d2, d3] }
  | _ => none }
def fnExactMovesOnDayRow : OpenClaim := { program := "ytfldgimmdeijjaa", sum := "121bdb59c864a7263079d2d855ea42df68803032f0372b30b5812a3ee278be88", func := "loop.example/g01305/laws.FnExactMovesOnDay", spec := "fnExactMovesOnDay", unfollowed := true, recurses := true, apart := false }
def FnExactMovesOnDaySaid : Prop := fnExactMovesOnDayRow.holds Try.pinned (OpenSpec.ofChange fnExactMovesOnDaySpec)

/-- ITS FALSE NEIGHBOUR: 'it returns false'. Refute it at one input. -/
def fnExactMovesOnDayWrong : ChangeSpec := { name := "fnExactMovesOnDay", fn := fun _ => fun
  | [d1, d2, d3] => { results := [.lit (.bool false)], args := [d1, d2, d3] }
  | _ => none }
def FnExactMovesOnDayWrongFalsely : Prop := fnExactMovesOnDayRow.holds Try.pinned (OpenSpec.ofChange fnExactMovesOnDayWrong)

/-- 'laws.FnExactMovesOfPlan': WHATEVER THE INPUT: true; the input reads as it did. -/
def fnExactMovesOfPlanSpec : ChangeSpec := { name := "fnExactMovesOfPlan", fn := fun _ => fun
  | [d1, d2] => { results := [.lit (.bool true)], args := [d1, d2] }
  | _ => none }
def fnExactMovesOfPlanRow : OpenClaim := { program := "ytfldgimmdeijjaa", sum := "121bdb59c864a7263079d2d855ea42df68803032f0372b30b5812a3ee278be88", func := "loop.example/g01305/laws.FnExactMovesOfPlan", spec := "fnExactMovesOfPlan", unfollowed := true, recurses := true, apart := false }
def FnExactMovesOfPlanSaid : Prop := fnExactMovesOfPlanRow.holds Try.pinned (OpenSpec.ofChange fnExactMovesOfPlanSpec)

/-- ITS FALSE NEIGHBOUR: 'it returns false'. Refute it at one input. -/
def fnExactMovesOfPlanWrong : ChangeSpec := { name := "fnExactMovesOfPlan", fn := fun _ => fun
  | [d1, d2] => { results := [.lit (.bool false)], args := [d1, d2] }
  | _ => none }
def FnExactMovesOfPlanWrongFalsely : Prop := fnExactMovesOfPlanRow.holds Try.pinned (OpenSpec.ofChange fnExactMovesOfPlanWrong)

/-- 'laws.FnExactPlanOfRun': WHATEVER THE INPUT: true; the input reads as it did. -/
def fnExactPlanOfRunSpec : ChangeSpec := { name := "fnExactPlanOfRun", fn := fun _ => fun
  | [d1, d2] => { results := [.lit (.bool true)], args := [d1, d2] }
  | _ => none }
def fnExactPlanOfRunRow : OpenClaim := { program := "ytfldgimmdeijjaa", sum := "121bdb59c864a7263079d2d855ea42df68803032f0372b30b5812a3ee278be88", func := "loop.example/g01305/laws.FnExactPlanOfRun", spec := "fnExactPlanOfRun", unfollowed := true, recurses := true, apart := false }
def FnExactPlanOfRunSaid : Prop := fnExactPlanOfRunRow.holds Try.pinned (OpenSpec.ofChange fnExactPlanOfRunSpec)

/-- ITS FALSE NEIGHBOUR: 'it returns false'. Refute it at one input. -/
def fnExactPlanOfRunWrong : ChangeSpec := { name := "fnExactPlanOfRun", fn := fun _ => fun
  | [d1, d2] => { results := [.lit (.bool false)], args := [d1, d2] }
  | _ => none }
def FnExactPlanOfRunWrongFalsely : Prop := fnExactPlanOfRunRow.holds Try.pinned (OpenSpec.ofChange fnExactPlanOfRunWrong)

/-- 'laws.FnExactPlanByRate': WHATEVER THE INPUT: true; the input reads as it did. -/
def fnExactPlanByRateSpec : ChangeSpec := { name := "fnExactPlanByRate", fn := fun _ => fun
  | [d1, d2, d3] => { results := [.lit (.bool true)], args := [d1, d2, d3] }
  | _ => none }
def fnExactPlanByRateRow : OpenClaim := { program := "ytfldgimmdeijjaa", sum := "121bdb59c864a7263079d2d855ea42df68803032f0372b30b5812a3ee278be88", func := "loop.example/g01305/laws.FnExactPlanByRate", spec := "fnExactPlanByRate", unfollowed := true, recurses := true, apart := false }
def FnExactPlanByRateSaid : Prop := fnExactPlanByRateRow.holds Try.pinned (OpenSpec.ofChange fnExactPlanByRateSpec)

/-- ITS FALSE NEIGHBOUR: 'it returns false'. Refute it at one input. -/
def fnExactPlanByRateWrong : ChangeSpec := { name := "fnExactPlanByRate", fn := fun _ => fun
  | [d1, d2, d3] => { results := [.lit (.bool false)], args := [d1, d2, d3] }
  | _ => none }
def FnExactPlanByRateWrongFalsely : Prop := fnExactPlanByRateRow.holds Try.pinned (OpenSpec.ofChange fnExactPlanByRateWrong)

/-- 'laws.FnExactGivenAt': WHATEVER THE INPUT: true; the input reads as it did. -/
def fnExactGivenAtSpec : ChangeSpec := { name := "fnExactGivenAt", fn := fun _ => fun
  | [d1, d2, d3] => { results := [.lit (.bool true)], args := [d1, d2, d3] }
  | _ => none }
def fnExactGivenAtRow : OpenClaim := { program := "ytfldgimmdeijjaa", sum := "121bdb59c864a7263079d2d855ea42df68803032f0372b30b5812a3ee278be88", func := "loop.example/g01305/laws.FnExactGivenAt", spec := "fnExactGivenAt", unfollowed := true, recurses := true, apart := false }
def FnExactGivenAtSaid : Prop := fnExactGivenAtRow.holds Try.pinned (OpenSpec.ofChange fnExactGivenAtSpec)

/-- ITS FALSE NEIGHBOUR: 'it returns false'. Refute it at one input. -/
def fnExactGivenAtWrong : ChangeSpec := { name := "fnExactGivenAt", fn := fun _ => fun
  | [d1, d2, d3] => { results := [.lit (.bool false)], args := [d1, d2, d3] }
  | _ => none }
def FnExactGivenAtWrongFalsely : Prop := fnExactGivenAtRow.holds Try.pinned (OpenSpec.ofChange fnExactGivenAtWrong)

/-- 'laws.FnExactTakenAt': WHATEVER THE INPUT: true; the input reads as it did. -/
def fnExactTakenAtSpec : ChangeSpec := { name := "fnExactTakenAt", fn := fun _ => fun
  | [d1, d2, d3] => { results := [.lit (.bool true)], args := [d1, d2, d3] }
  | _ => none }
def fnExactTakenAtRow : OpenClaim := { program := "ytfldgimmdeijjaa", sum := "121bdb59c864a7263079d2d855ea42df68803032f0372b30b5812a3ee278be88", func := "loop.example/g01305/laws.FnExactTakenAt", spec := "fnExactTakenAt", unfollowed := true, recurses := true, apart := false }
def FnExactTakenAtSaid : Prop := fnExactTakenAtRow.holds Try.pinned (OpenSpec.ofChange fnExactTakenAtSpec)

/-- ITS FALSE NEIGHBOUR: 'it returns false'. Refute it at one input. -/
def fnExactTakenAtWrong : ChangeSpec := { name := "fnExactTakenAt", fn := fun _ => fun
  | [d1, d2, d3] => { results := [.lit (.bool false)], args := [d1, d2, d3] }
  | _ => none }
def FnExactTakenAtWrongFalsely : Prop := fnExactTakenAtRow.holds Try.pinned (OpenSpec.ofChange fnExactTakenAtWrong)

/-- 'laws.FnExactLeastPiecesFor': WHATEVER THE INPUT: true; the input reads as it did. -/
def fnExactLeastPiecesForSpec : ChangeSpec := { name := "fnExactLeastPiecesFor", fn := fun _ => fun
  | [d] => { results := [.lit (.bool true)], args := [d] }
  | _ => none }
def fnExactLeastPiecesForRow : OpenClaim := { program := "ytfldgimmdeijjaa", sum := "121bdb59c864a7263079d2d855ea42df68803032f0372b30b5812a3ee278be88", func := "loop.example/g01305/laws.FnExactLeastPiecesFor", spec := "fnExactLeastPiecesFor", recurses := true, apart := false }
def FnExactLeastPiecesForSaid : Prop := fnExactLeastPiecesForRow.holds Try.pinned (OpenSpec.ofChange fnExactLeastPiecesForSpec)

/-- ITS FALSE NEIGHBOUR: 'it returns false'. Refute it at one input. -/
def fnExactLeastPiecesForWrong : ChangeSpec := { name := "fnExactLeastPiecesFor", fn := fun _ => fun
  | [d] => { results := [.lit (.bool false)], args := [d] }
  | _ => none }
def FnExactLeastPiecesForWrongFalsely : Prop := fnExactLeastPiecesForRow.holds Try.pinned (OpenSpec.ofChange fnExactLeastPiecesForWrong)

/-- 'laws.FnExactDaysPaid': WHATEVER THE INPUT: true; the input reads as it did. -/
def fnExactDaysPaidSpec : ChangeSpec := { name := "fnExactDaysPaid", fn := fun _ => fun
  | [d1, d2] => { results := [.lit (.bool true)], args := [d1, d2] }
  | _ => none }
def fnExactDaysPaidRow : OpenClaim := { program := "ytfldgimmdeijjaa", sum := "121bdb59c864a7263079d2d855ea42df68803032f0372b30b5812a3ee278be88", func := "loop.example/g01305/laws.FnExactDaysPaid", spec := "fnExactDaysPaid", unfollowed := true, recurses := true, apart := false }
def FnExactDaysPaidSaid : Prop := fnExactDaysPaidRow.holds Try.pinned (OpenSpec.ofChange fnExactDaysPaidSpec)

/-- ITS FALSE NEIGHBOUR: 'it returns false'. Refute it at one input. -/
def fnExactDaysPaidWrong : ChangeSpec := { name := "fnExactDaysPaid", fn := fun _ => fun
  | [d1, d2] => { results := [.lit (.bool false)], args := [d1, d2] }
  | _ => none }
def FnExactDaysPaidWrongFalsely : Prop := fnExactDaysPaidRow.holds Try.pinned (OpenSpec.ofChange fnExactDaysPaidWrong)

/-- 'laws.FnExactCountPlans': WHATEVER THE INPUT: true; the input reads as it did. -/
def fnExactCountPlansSpec : ChangeSpec := { name := "fnExactCountPlans", fn := fun _ => fun
  | [d1, d2, d3] => { results := [.lit (.bool true)], args := [d1, d2, d3] }
  | _ => none }
def fnExactCountPlansRow : OpenClaim := { program := "ytfldgimmdeijjaa", sum := "121bdb59c864a7263079d2d855ea42df68803032f0372b30b5812a3ee278be88", func := "loop.example/g01305/laws.FnExactCountPlans", spec := "fnExactCountPlans", unfollowed := true, recurses := true, apart := false }
def FnExactCountPlansSaid : Prop := fnExactCountPlansRow.holds Try.pinned (OpenSpec.ofChange fnExactCountPlansSpec)

/-- ITS FALSE NEIGHBOUR: 'it returns false'. Refute it at one input. -/
def fnExactCountPlansWrong : ChangeSpec := { name := "fnExactCountPlans", fn := fun _ => fun
  | [d1, d2, d3] => { results := [.lit (.bool false)], args := [d1, d2, d3] }
  | _ => none }
def FnExactCountPlansWrongFalsely : Prop := fnExactCountPlansRow.holds Try.pinned (OpenSpec.ofChange fnExactCountPlansWrong)

/-- 'laws.FnExactFirstMoves': WHATEVER THE INPUT: true; the input reads as it did. -/
def fnExactFirstMovesSpec : ChangeSpec := { name := "fnExactFirstMoves", fn := fun _ => fun
  | [d1, d2, d3] => { results := [.lit (.bool true)], args := [d1, d2, d3] }
  | _ => none }
def fnExactFirstMovesRow : OpenClaim := { program := "ytfldgimmdeijjaa", sum := "121bdb59c864a7263079d2d855ea42df68803032f0372b30b5812a3ee278be88", func := "loop.example/g01305/laws.FnExactFirstMoves", spec := "fnExactFirstMoves", unfollowed := true, recurses := true, apart := false }
def FnExactFirstMovesSaid : Prop := fnExactFirstMovesRow.holds Try.pinned (OpenSpec.ofChange fnExactFirstMovesSpec)

/-- ITS FALSE NEIGHBOUR: 'it returns false'. Refute it at one input. -/
def fnExactFirstMovesWrong : ChangeSpec := { name := "fnExactFirstMoves", fn := fun _ => fun
  | [d1, d2, d3] => { results := [.lit (.bool false)], args := [d1, d2, d3] }
  | _ => none }
def FnExactFirstMovesWrongFalsely : Prop := fnExactFirstMovesRow.holds Try.pinned (OpenSpec.ofChange fnExactFirstMovesWrong)

/-- 'laws.FnExactFewestMoves': WHATEVER THE INPUT: true; the input reads as it did. -/
def fnExactFewestMovesSpec : ChangeSpec := { name := "fnExactFewestMoves", fn := fun _ => fun
  | [d1, d2, d3] => { results := [.lit (.bool true)], args := [d1, d2, d3] }
  | _ => none }
def fnExactFewestMovesRow : OpenClaim := { program := "ytfldgimmdeijjaa", sum := "121bdb59c864a7263079d2d855ea42df68803032f0372b30b5812a3ee278be88", func := "loop.example/g01305/laws.FnExactFewestMoves", spec := "fnExactFewestMoves", unfollowed := true, recurses := true, apart := false }
def FnExactFewestMovesSaid : Prop := fnExactFewestMovesRow.holds Try.pinned (OpenSpec.ofChange fnExactFewestMovesSpec)

/-- ITS FALSE NEIGHBOUR: 'it returns false'. Refute it at one input. -/
def fnExactFewestMovesWrong : ChangeSpec := { name := "fnExactFewestMoves", fn := fun _ => fun
  | [d1, d2, d3] => { results := [.lit (.bool false)], args := [d1, d2, d3] }
  | _ => none }
def FnExactFewestMovesWrongFalsely : Prop := fnExactFewestMovesRow.holds Try.pinned (OpenSpec.ofChange fnExactFewestMovesWrong)

/- THE SECOND FORM. 'bulk': how many values and letters a reading holds, each counted each time it is reached (what is shared counts as often as it is met; a slice's spare places count too). A statement '..UptoSaid' is the law's where the arguments, and the package variables that the reading takes, are together of bulk at most 1048576: NARROWER than '..Said'. Prove '..Said' where nothing that the law and all that it calls make is longer than what came in: it says more and counts as full. Else prove '..UptoSaid'. A law counts once. -/
mutual
def uptoBulk {H : Type} : DataW H → Nat
  | .lit (.string bytes) => bytes.length + 1
  | .lit _ => 1
  | .nil => 1
  | .ptr d => uptoBulk d + 1
  | .slice elems spare => uptoBulkAll elems + uptoBulkAll spare + 1
  | .agg parts => uptoBulkAll parts + 1
  | .iface _ d => uptoBulk d + 1
  | .map entries => uptoBulkEntries entries + 1
  | .held _ => 1
def uptoBulkAll {H : Type} : List (DataW H) → Nat
  | [] => 0
  | d :: r => uptoBulk d + uptoBulkAll r
def uptoBulkEntries {H : Type} : List (Lit × DataW H) → Nat
  | [] => 0
  | x :: r => uptoBulkEntry x + uptoBulkEntries r
def uptoBulkEntry {H : Type} : Lit × DataW H → Nat
  | (.string bytes, d) => bytes.length + uptoBulk d + 1
  | (_, d) => uptoBulk d + 1
 end
def uptoSmall : (H : Type) → List (DataW H) → Bool := fun _ ds => decide (uptoBulkAll ds ≤ 1048576)
def OpenSpec.upto (s : _root_.Go.ChangeSpec) : _root_.Go.OpenSpec := { _root_.Go.OpenSpec.ofChange s with cond := some uptoSmall }

/-- 'laws.FnExactIsPlan', WHERE WHAT IT READS IS OF BULK AT MOST 1048576: true; the input reads as it did. -/
def fnExactIsPlanUptoRow : OpenClaim := { program := "ytfldgimmdeijjaa", sum := "121bdb59c864a7263079d2d855ea42df68803032f0372b30b5812a3ee278be88", func := "loop.example/g01305/laws.FnExactIsPlan", spec := "fnExactIsPlan", unfollowed := true, recurses := true, apart := false, narrowed := true }
def FnExactIsPlanUptoSaid : Prop := fnExactIsPlanUptoRow.holds Try.pinned (OpenSpec.upto fnExactIsPlanSpec)

/-- 'laws.FnExactHeldAt', WHERE WHAT IT READS IS OF BULK AT MOST 1048576: true; the input reads as it did. -/
def fnExactHeldAtUptoRow : OpenClaim := { program := "ytfldgimmdeijjaa", sum := "121bdb59c864a7263079d2d855ea42df68803032f0372b30b5812a3ee278be88", func := "loop.example/g01305/laws.FnExactHeldAt", spec := "fnExactHeldAt", unfollowed := true, recurses := true, apart := false, narrowed := true }
def FnExactHeldAtUptoSaid : Prop := fnExactHeldAtUptoRow.holds Try.pinned (OpenSpec.upto fnExactHeldAtSpec)

/-- 'laws.FnExactMovesOnDay', WHERE WHAT IT READS IS OF BULK AT MOST 1048576: true; the input reads as it did. -/
def fnExactMovesOnDayUptoRow : OpenClaim := { program := "ytfldgimmdeijjaa", sum := "121bdb59c864a7263079d2d855ea42df68803032f0372b30b5812a3ee278be88", func := "loop.example/g01305/laws.FnExactMovesOnDay", spec := "fnExactMovesOnDay", unfollowed := true, recurses := true, apart := false, narrowed := true }
def FnExactMovesOnDayUptoSaid : Prop := fnExactMovesOnDayUptoRow.holds Try.pinned (OpenSpec.upto fnExactMovesOnDaySpec)

/-- 'laws.FnExactMovesOfPlan', WHERE WHAT IT READS IS OF BULK AT MOST 1048576: true; the input reads as it did. -/
def fnExactMovesOfPlanUptoRow : OpenClaim := { program := "ytfldgimmdeijjaa", sum := "121bdb59c864a7263079d2d855ea42df68803032f0372b30b5812a3ee278be88", func := "loop.example/g01305/laws.FnExactMovesOfPlan", spec := "fnExactMovesOfPlan", unfollowed := true, recurses := true, apart := false, narrowed := true }
def FnExactMovesOfPlanUptoSaid : Prop := fnExactMovesOfPlanUptoRow.holds Try.pinned (OpenSpec.upto fnExactMovesOfPlanSpec)

/-- 'laws.FnExactPlanOfRun', WHERE WHAT IT READS IS OF BULK AT MOST 1048576: true; the input reads as it did. -/
def fnExactPlanOfRunUptoRow : OpenClaim := { program := "ytfldgimmdeijjaa", sum := "121bdb59c864a7263079d2d855ea42df68803032f0372b30b5812a3ee278be88", func := "loop.example/g01305/laws.FnExactPlanOfRun", spec := "fnExactPlanOfRun", unfollowed := true, recurses := true, apart := false, narrowed := true }
def FnExactPlanOfRunUptoSaid : Prop := fnExactPlanOfRunUptoRow.holds Try.pinned (OpenSpec.upto fnExactPlanOfRunSpec)

/-- 'laws.FnExactPlanByRate', WHERE WHAT IT READS IS OF BULK AT MOST 1048576: true; the input reads as it did. -/
def fnExactPlanByRateUptoRow : OpenClaim := { program := "ytfldgimmdeijjaa", sum := "121bdb59c864a7263079d2d855ea42df68803032f0372b30b5812a3ee278be88", func := "loop.example/g01305/laws.FnExactPlanByRate", spec := "fnExactPlanByRate", unfollowed := true, recurses := true, apart := false, narrowed := true }
def FnExactPlanByRateUptoSaid : Prop := fnExactPlanByRateUptoRow.holds Try.pinned (OpenSpec.upto fnExactPlanByRateSpec)

/-- 'laws.FnExactGivenAt', WHERE WHAT IT READS IS OF BULK AT MOST 1048576: true; the input reads as it did. -/
def fnExactGivenAtUptoRow : OpenClaim := { program := "ytfldgimmdeijjaa", sum := "121bdb59c864a7263079d2d855ea42df68803032f0372b30b5812a3ee278be88", func := "loop.example/g01305/laws.FnExactGivenAt", spec := "fnExactGivenAt", unfollowed := true, recurses := true, apart := false, narrowed := true }
def FnExactGivenAtUptoSaid : Prop := fnExactGivenAtUptoRow.holds Try.pinned (OpenSpec.upto fnExactGivenAtSpec)

/-- 'laws.FnExactTakenAt', WHERE WHAT IT READS IS OF BULK AT MOST 1048576: true; the input reads as it did. -/
def fnExactTakenAtUptoRow : OpenClaim := { program := "ytfldgimmdeijjaa", sum := "121bdb59c864a7263079d2d855ea42df68803032f0372b30b5812a3ee278be88", func := "loop.example/g01305/laws.FnExactTakenAt", spec := "fnExactTakenAt", unfollowed := true, recurses := true, apart := false, narrowed := true }
def FnExactTakenAtUptoSaid : Prop := fnExactTakenAtUptoRow.holds Try.pinned (OpenSpec.upto fnExactTakenAtSpec)

/-- 'laws.FnExactLeastPiecesFor', WHERE WHAT IT READS IS OF BULK AT MOST 1048576: true; the input reads as it did. -/
def fnExactLeastPiecesForUptoRow : OpenClaim := { program := "ytfldgimmdeijjaa", sum := "121bdb59c864a7263079d2d855ea42df68803032f0372b30b5812a3ee278be88", func := "loop.example/g01305/laws.FnExactLeastPiecesFor", spec := "fnExactLeastPiecesFor", recurses := true, apart := false, narrowed := true }
def FnExactLeastPiecesForUptoSaid : Prop := fnExactLeastPiecesForUptoRow.holds Try.pinned (OpenSpec.upto fnExactLeastPiecesForSpec)

/-- 'laws.FnExactDaysPaid', WHERE WHAT IT READS IS OF BULK AT MOST 1048576: true; the input reads as it did. -/
def fnExactDaysPaidUptoRow : OpenClaim := { program := "ytfldgimmdeijjaa", sum := "121bdb59c864a7263079d2d855ea42df68803032f0372b30b5812a3ee278be88", func := "loop.example/g01305/laws.FnExactDaysPaid", spec := "fnExactDaysPaid", unfollowed := true, recurses := true, apart := false, narrowed := true }
def FnExactDaysPaidUptoSaid : Prop := fnExactDaysPaidUptoRow.holds Try.pinned (OpenSpec.upto fnExactDaysPaidSpec)

/-- 'laws.FnExactCountPlans', WHERE WHAT IT READS IS OF BULK AT MOST 1048576: true; the input reads as it did. -/
def fnExactCountPlansUptoRow : OpenClaim := { program := "ytfldgimmdeijjaa", sum := "121bdb59c864a7263079d2d855ea42df68803032f0372b30b5812a3ee278be88", func := "loop.example/g01305/laws.FnExactCountPlans", spec := "fnExactCountPlans", unfollowed := true, recurses := true, apart := false, narrowed := true }
def FnExactCountPlansUptoSaid : Prop := fnExactCountPlansUptoRow.holds Try.pinned (OpenSpec.upto fnExactCountPlansSpec)

/-- 'laws.FnExactFirstMoves', WHERE WHAT IT READS IS OF BULK AT MOST 1048576: true; the input reads as it did. -/
def fnExactFirstMovesUptoRow : OpenClaim := { program := "ytfldgimmdeijjaa", sum := "121bdb59c864a7263079d2d855ea42df68803032f0372b30b5812a3ee278be88", func := "loop.example/g01305/laws.FnExactFirstMoves", spec := "fnExactFirstMoves", unfollowed := true, recurses := true, apart := false, narrowed := true }
def FnExactFirstMovesUptoSaid : Prop := fnExactFirstMovesUptoRow.holds Try.pinned (OpenSpec.upto fnExactFirstMovesSpec)

/-- 'laws.FnExactFewestMoves', WHERE WHAT IT READS IS OF BULK AT MOST 1048576: true; the input reads as it did. -/
def fnExactFewestMovesUptoRow : OpenClaim := { program := "ytfldgimmdeijjaa", sum := "121bdb59c864a7263079d2d855ea42df68803032f0372b30b5812a3ee278be88", func := "loop.example/g01305/laws.FnExactFewestMoves", spec := "fnExactFewestMoves", unfollowed := true, recurses := true, apart := false, narrowed := true }
def FnExactFewestMovesUptoSaid : Prop := fnExactFewestMovesUptoRow.holds Try.pinned (OpenSpec.upto fnExactFewestMovesSpec)

end Rows
end Go.Proofs.Ytfldgimmdeijjaa
