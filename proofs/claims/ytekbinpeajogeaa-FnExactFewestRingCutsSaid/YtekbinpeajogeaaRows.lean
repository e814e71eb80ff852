/-
  No cell of these rows narrows 'for every input' (looked for: loops, veiled, ifaces, maps, wideKeys, modest, calm, conditions, laid).
  DERIVED. THE GIVEN ROWS OF THIS SEAT. 6 by the template 'for every input the law returns true; each argument reads behind the call as it read before'; 0 by the template 'total and deterministic' (their statements: YtekbinpeajogeaaTotals.lean).
  GIVEN WITH THE SEED: the statements are not yours to turn. If you find one false, say at which input.
  Laid BY PROGRAM, IN A SANDBOX (cutbox-rows.mjs): the forced cells as the released guide's own fill.sh prints them over the translation ebb68edb6f9fcf4c… (all of the seat's roots in one cut). By AI agents, Wed Nov 11 2026. No macro, syntax, notation, axiom, sorry.
-/
import Derived.Test.YtekbinpeajogeaaChecked
import GoSem.Claim
import GoSem.ClaimJoined
import GoSem.ClaimMapViews
import Derived.JoinedTies
import Derived.KernelRfl
namespace Go.Proofs.Ytekbinpeajogeaa
/- THE CELL 'sum', in the pinned program and in every row, IS THE sha256 OF THE DUMP (.gsa) THAT YtekbinpeajogeaaProg.lean LOADS. Nothing in Lean hashes anything: it is a label: what it is worth is what the hold of that sum in a sandbox is worth. -/
noncomputable def Try.pinned : Pinned := { name := "ytekbinpeajogeaa", sum := "ebb68edb6f9fcf4cd9f9b17e752454792953712efc74a442136b2d3184c2301a", checked := Try.checked }
namespace Rows
def none {H : Type} : Left H := { results := [], args := [] }

/-- 'laws.FnExactConstants': WHATEVER THE INPUT: true; the input reads as it did. -/
def fnExactConstantsSpec : ChangeSpec := { name := "fnExactConstants", fn := fun _ => fun
  | [] => { results := [.lit (.bool true)], args := [] }
  | _ => none }
def fnExactConstantsRow : OpenClaim := { program := "ytekbinpeajogeaa", sum := "ebb68edb6f9fcf4cd9f9b17e752454792953712efc74a442136b2d3184c2301a", func := "loop.example/g01305/laws.FnExactConstants", spec := "fnExactConstants", apart := false }
def FnExactConstantsSaid : Prop := fnExactConstantsRow.holds Try.pinned (OpenSpec.ofChange fnExactConstantsSpec)

/-- ITS FALSE NEIGHBOUR: 'it returns false'. Refute it at one input. -/
def fnExactConstantsWrong : ChangeSpec := { name := "fnExactConstants", fn := fun _ => fun
  | [] => { results := [.lit (.bool false)], args := [] }
  | _ => none }
def FnExactConstantsWrongFalsely : Prop := fnExactConstantsRow.holds Try.pinned (OpenSpec.ofChange fnExactConstantsWrong)

/-- 'laws.FnExactMostLinks': WHATEVER THE INPUT: true; the input reads as it did. -/
def fnExactMostLinksSpec : ChangeSpec := { name := "fnExactMostLinks", fn := fun _ => fun
  | [d] => { results := [.lit (.bool true)], args := [d] }
  | _ => none }
def fnExactMostLinksRow : OpenClaim := { program := "ytekbinpeajogeaa", sum := "ebb68edb6f9fcf4cd9f9b17e752454792953712efc74a442136b2d3184c2301a", func := "loop.example/g01305/laws.FnExactMostLinks", spec := "fnExactMostLinks", apart := false }
def FnExactMostLinksSaid : Prop := fnExactMostLinksRow.holds Try.pinned (OpenSpec.ofChange fnExactMostLinksSpec)

/-- ITS FALSE NEIGHBOUR: 'it returns false'. Refute it at one input. -/
def fnExactMostLinksWrong : ChangeSpec := { name := "fnExactMostLinks", fn := fun _ => fun
  | [d] => { results := [.lit (.bool false)], args := [d] }
  | _ => none }
def FnExactMostLinksWrongFalsely : Prop := fnExactMostLinksRow.holds Try.pinned (OpenSpec.ofChange fnExactMostLinksWrong)

/-- 'laws.FnExactMostRing': WHATEVER THE INPUT: true; the input reads as it did. -/
def fnExactMostRingSpec : ChangeSpec := { name := "fnExactMostRing", fn := fun _ => fun
  | [d] => { results := [.lit (.bool true)], args := [d] }
  | _ => none }
def fnExactMostRingRow : OpenClaim := { program := "ytekbinpeajogeaa", sum := "ebb68edb6f9fcf4cd9f9b17e752454792953712efc74a442136b2d3184c2301a", func := "loop.example/g01305/laws.FnExactMostRing", spec := "fnExactMostRing", apart := false }
def FnExactMostRingSaid : Prop := fnExactMostRingRow.holds Try.pinned (OpenSpec.ofChange fnExactMostRingSpec)

/-- ITS FALSE NEIGHBOUR: 'it returns false'. Refute it at one input. -/
def fnExactMostRingWrong : ChangeSpec := { name := "fnExactMostRing", fn := fun _ => fun
  | [d] => { results := [.lit (.bool false)], args := [d] }
  | _ => none }
def FnExactMostRingWrongFalsely : Prop := fnExactMostRingRow.holds Try.pinned (OpenSpec.ofChange fnExactMostRingWrong)

/-- 'laws.FnExactFewestRingCuts': WHATEVER THE INPUT: true; the input reads as it did. -/
def fnExactFewestRingCutsSpec : ChangeSpec := { name := "fnExactFewestRingCuts", fn := fun _ => fun
  | [d] => { results := [.lit (.bool true)], args := [d] }
  | _ => none }
def fnExactFewestRingCutsRow : OpenClaim := { program := "ytekbinpeajogeaa", sum := "ebb68edb6f9fcf4cd9f9b17e752454792953712efc74a442136b2d3184c2301a", func := "loop.example/g01305/laws.FnExactFewestRingCuts", spec := "fnExactFewestRingCuts", unfollowed := true, recurses := true, apart := false }
def FnExactFewestRingCutsSaid : Prop := fnExactFewestRingCutsRow.holds Try.pinned (OpenSpec.ofChange fnExactFewestRingCutsSpec)

/-- ITS FALSE NEIGHBOUR: 'it returns false'. Refute it at one input. -/
def fnExactFewestRingCutsWrong : ChangeSpec := { name := "fnExactFewestRingCuts", fn := fun _ => fun
  | [d] => { results := [.lit (.bool false)], args := [d] }
  | _ => none }
def FnExactFewestRingCutsWrongFalsely : Prop := fnExactFewestRingCutsRow.holds Try.pinned (OpenSpec.ofChange fnExactFewestRingCutsWrong)

/-- 'laws.FnExactFewestCuts': WHATEVER THE INPUT: true; the input reads as it did. -/
def fnExactFewestCutsSpec : ChangeSpec := { name := "fnExactFewestCuts", fn := fun _ => fun
  | [d] => { results := [.lit (.bool true)], args := [d] }
  | _ => none }
def fnExactFewestCutsRow : OpenClaim := { program := "ytekbinpeajogeaa", sum := "ebb68edb6f9fcf4cd9f9b17e752454792953712efc74a442136b2d3184c2301a", func := "loop.example/g01305/laws.FnExactFewestCuts", spec := "fnExactFewestCuts", unfollowed := true, recurses := true, apart := false }
def FnExactFewestCutsSaid : Prop := fnExactFewestCutsRow.holds Try.pinned (OpenSpec.ofChange fnExactFewestCutsSpec)

/-- ITS FALSE NEIGHBOUR: 'it returns false'. Refute it at one input. -/
def fnExactFewestCutsWrong : ChangeSpec := { name := "fnExactFewestCuts", fn := fun _ => fun
  | [d] => { results := [.lit (.bool false)], args := [d] }
  | _ => none }
def FnExactFewestCutsWrongFalsely : Prop := fnExactFewestCutsRow.holds Try.pinned (OpenSpec.ofChange fnExactFewestCutsWrong)

/-- 'laws.FnExactCutsForMost': WHATEVER THE INPUT: true; the input reads as it did. -/
def fnExactCutsForMostSpec : ChangeSpec := { name := "fnExactCutsForMost", fn := fun _ => fun
  | [d] => { results := [.lit (.bool true)], args := [d] }
  | _ => none }
def fnExactCutsForMostRow : OpenClaim := { program := "ytekbinpeajogeaa", sum := "ebb68edb6f9fcf4cd9f9b17e752454792953712efc74a442136b2d3184c2301a", func := "loop.example/g01305/laws.FnExactCutsForMost", spec := "fnExactCutsForMost", apart := false }
def FnExactCutsForMostSaid : Prop := fnExactCutsForMostRow.holds Try.pinned (OpenSpec.ofChange fnExactCutsForMostSpec)

/-- ITS FALSE NEIGHBOUR: 'it returns false'. Refute it at one input. -/
def fnExactCutsForMostWrong : ChangeSpec := { name := "fnExactCutsForMost", fn := fun _ => fun
  | [d] => { results := [.lit (.bool false)], args := [d] }
  | _ => none }
def FnExactCutsForMostWrongFalsely : Prop := fnExactCutsForMostRow.holds Try.pinned (OpenSpec.ofChange fnExactCutsForMostWrong)

/- THE SECOND FORM. 'bulk': how many values and letters a reading holds, each counted each time it is reached (what is shared counts as often as it is met; a slice's spare places count too). A statement '..UptoSaid' is the law's where the arguments, and the package variables that the reading takes, are together of bulk at most 1048576: NARROWER than '..Said'. Prove '..Said' where nothing that the law and all that it calls make is longer than what came in: it says more and counts as full. Else prove '..UptoSaid'. A law counts once. -/
mutual
def uptoBulk {H : Type} : DataW H → Nat
  | .lit (.string bytes) => bytes.length + 1
  | .lit _ => 1
  | .nil => 1
  | .ptr d => uptoBulk d + 1
  | .slice elems spare => uptoBulkAll elems + uptoBulkAll spare + 1
  | .agg parts => uptoBulkAll parts + 1
  | .iface _ d => uptoBulk d + 1
  | .map entries => uptoBulkEntries entries + 1
  | .held _ => 1
def uptoBulkAll {H : Type} : List (DataW H) → Nat
  | [] => 0
  | d :: r => uptoBulk d + uptoBulkAll r
def uptoBulkEntries {H : Type} : List (Lit × DataW H) → Nat
  | [] => 0
  | x :: r => uptoBulkEntry x + uptoBulkEntries r
def uptoBulkEntry {H : Type} : Lit × DataW H → Nat
  | (.string bytes, d) => bytes.length + uptoBulk d + 1
  | (_, d) => uptoBulk d + 1
 end
def uptoSmall : (H : Type) → List (DataW H) → Bool := fun _ ds => decide (uptoBulkAll ds ≤ 1048576)
def OpenSpec.upto (s : _root_.Go.ChangeSpec) : _root_.Go.OpenSpec := { _root_.Go.OpenSpec.ofChange s with cond := some uptoSmall }

/-- 'laws.FnExactConstants', WHERE WHAT IT READS IS OF BULK AT MOST 1048576: true; the input reads as it did. -/
def fnExactConstantsUptoRow : OpenClaim := { program := "ytekbinpeajogeaa", sum := "ebb68edb6f9fcf4cd9f9b17e752454792953712efc74a442136b2d3184c2301a", func := "loop.example/g01305/laws.FnExactConstants", spec := "fnExactConstants", apart := false, narrowed := true }
def FnExactConstantsUptoSaid : Prop := fnExactConstantsUptoRow.holds Try.pinned (OpenSpec.upto fnExactConstantsSpec)

/-- 'laws.FnExactMostLinks', WHERE WHAT IT READS IS OF BULK AT MOST 1048576: true; the input reads as it did. -/
def fnExactMostLinksUptoRow : OpenClaim := { program := "ytekbinpeajogeaa", sum := "ebb68edb6f9fcf4cd9f9b17e752454792953712efc74a442136b2d3184c2301a", func := "loop.example/g01305/laws.FnExactMostLinks", spec := "fnExactMostLinks", apart := false, narrowed := true }
def FnExactMostLinksUptoSaid : Prop := fnExactMostLinksUptoRow.holds Try.pinned (OpenSpec.upto fnExactMostLinksSpec)

/-- 'laws.FnExactMostRing', WHERE WHAT IT READS IS OF BULK AT MOST 1048576: true; the input reads as it did. -/
def fnExactMostRingUptoRow : OpenClaim := { program := "ytekbinpeajogeaa", sum := "ebb68edb6f9fcf4cd9f9b17e752454792953712efc74a442136b2d3184c2301a", func := "loop.example/g01305/laws.FnExactMostRing", spec := "fnExactMostRing", apart := false, narrowed := true }
def FnExactMostRingUptoSaid : Prop := fnExactMostRingUptoRow.holds Try.pinned (OpenSpec.upto fnExactMostRingSpec)

/-- 'laws.FnExactFewestRingCuts', WHERE WHAT IT READS IS OF BULK AT MOST 1048576: true; the input reads as it did. -/
def fnExactFewestRingCutsUptoRow : OpenClaim := { program := "ytekbinpeajogeaa", sum := "ebb68edb6f9fcf4cd9f9b17e752454792953712efc74a442136b2d3184c2301a", func := "loop.example/g01305/laws.FnExactFewestRingCuts", spec := "fnExactFewestRingCuts", unfollowed := true, recurses := true, apart := false, narrowed := true }
def FnExactFewestRingCutsUptoSaid : Prop := fnExactFewestRingCutsUptoRow.holds Try.pinned (OpenSpec.upto fnExactFewestRingCutsSpec)

/-- 'laws.FnExactFewestCuts', WHERE WHAT IT READS IS OF BULK AT MOST 1048576: true; the input reads as it did. -/
def fnExactFewestCutsUptoRow : OpenClaim := { program := "ytekbinpeajogeaa", sum := "ebb68edb6f9fcf4cd9f9b17e752454792953712efc74a442136b2d3184c2301a", func := "loop.example/g01305/laws.FnExactFewestCuts", spec := "fnExactFewestCuts", unfollowed := true, recurses := true, apart := false, narrowed := true }
def FnExactFewestCutsUptoSaid : Prop := fnExactFewestCutsUptoRow.holds Try.pinned (OpenSpec.upto fnExactFewestCutsSpec)

/-- 'laws.FnExactCutsForMost', WHERE WHAT IT READS IS OF BULK AT MOST 1048576: true; the input reads as it did. -/
def fnExactCutsForMostUptoRow : OpenClaim := { program := "ytekbinpeajogeaa", sum := "ebb68edb6f9fcf4cd9f9b17e752454792953712efc74a442136b2d3184c2301a", func := "loop.example/g01305/laws.FnExactCutsForMost", spec := "fnExactCutsForMost", apart := false, narrowed := true }
def FnExactCutsForMostUptoSaid : Prop := fnExactCutsForMostUptoRow.holds Try.pinned (OpenSpec.upto fnExactCutsForMostSpec)

end Rows
end Go.Proofs.Ytekbinpeajogeaa
