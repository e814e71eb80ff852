/-
  No cell of these rows narrows 'for every input' (looked for: loops, veiled, ifaces, maps, wideKeys, modest, calm, conditions, laid).
  DERIVED. THE GIVEN ROWS OF THIS SEAT. 7 by the template 'for every input the law returns true; each argument reads behind the call as it read before'; 0 by the template 'total and deterministic' (their statements: YtfapijfjonnmcaaTotals.lean).
  GIVEN WITH THE SEED: the statements are not yours to turn. If you find one false, say at which input.
  Laid BY PROGRAM, IN A SANDBOX (cutbox-rows.mjs): the forced cells as the released guide's own fill.sh prints them over the translation f69827681cf218a9… (all of the seat's roots in one cut). By AI agents, Wed Nov 11 2026. No macro, syntax, notation, axiom, sorry.
-/
import Derived.Test.YtfapijfjonnmcaaChecked
import GoSem.Claim
import GoSem.ClaimJoined
import GoSem.ClaimMapViews
import Derived.JoinedTies
import Derived.KernelRfl
namespace Go.Proofs.Ytfapijfjonnmcaa
/- THE CELL 'sum', in the pinned program and in every row, IS THE sha256 OF THE DUMP (.gsa) THAT YtfapijfjonnmcaaProg.lean LOADS. Nothing in Lean hashes anything: it is a label: what it is worth is what the hold of that sum in a sandbox is worth. -/
noncomputable def Try.pinned : Pinned := { name := "ytfapijfjonnmcaa", sum := "f69827681cf218a93d4c182ac34aa938db396f46aa19eed4b30ec5666546cd35", checked := Try.checked }
namespace Rows
def none {H : Type} : Left H := { results := [], args := [] }

/-- 'laws.FnExactIsRuler': WHATEVER THE INPUT: true; the input reads as it did. -/
def fnExactIsRulerSpec : ChangeSpec := { name := "fnExactIsRuler", fn := fun _ => fun
  | [d] => { results := [.lit (.bool true)], args := [d] }
  | _ => none }
def fnExactIsRulerRow : OpenClaim := { program := "ytfapijfjonnmcaa", sum := "f69827681cf218a93d4c182ac34aa938db396f46aa19eed4b30ec5666546cd35", func := "loop.example/g01305/laws.FnExactIsRuler", spec := "fnExactIsRuler", apart := false }
def FnExactIsRulerSaid : Prop := fnExactIsRulerRow.holds Try.pinned (OpenSpec.ofChange fnExactIsRulerSpec)

/-- ITS FALSE NEIGHBOUR: 'it returns false'. Refute it at one input. -/
def fnExactIsRulerWrong : ChangeSpec := { name := "fnExactIsRuler", fn := fun _ => fun
  | [d] => { results := [.lit (.bool false)], args := [d] }
  | _ => none }
def FnExactIsRulerWrongFalsely : Prop := fnExactIsRulerRow.holds Try.pinned (OpenSpec.ofChange fnExactIsRulerWrong)

/-- 'laws.FnExactAreCuts': WHATEVER THE INPUT: true; the input reads as it did. -/
def fnExactAreCutsSpec : ChangeSpec := { name := "fnExactAreCuts", fn := fun _ => fun
  | [d1, d2] => { results := [.lit (.bool true)], args := [d1, d2] }
  | _ => none }
def fnExactAreCutsRow : OpenClaim := { program := "ytfapijfjonnmcaa", sum := "f69827681cf218a93d4c182ac34aa938db396f46aa19eed4b30ec5666546cd35", func := "loop.example/g01305/laws.FnExactAreCuts", spec := "fnExactAreCuts", unfollowed := true, recurses := true, apart := false }
def FnExactAreCutsSaid : Prop := fnExactAreCutsRow.holds Try.pinned (OpenSpec.ofChange fnExactAreCutsSpec)

/-- ITS FALSE NEIGHBOUR: 'it returns false'. Refute it at one input. -/
def fnExactAreCutsWrong : ChangeSpec := { name := "fnExactAreCuts", fn := fun _ => fun
  | [d1, d2] => { results := [.lit (.bool false)], args := [d1, d2] }
  | _ => none }
def FnExactAreCutsWrongFalsely : Prop := fnExactAreCutsRow.holds Try.pinned (OpenSpec.ofChange fnExactAreCutsWrong)

/-- 'laws.FnExactWaysToMeasure': WHATEVER THE INPUT: true; the input reads as it did. -/
def fnExactWaysToMeasureSpec : ChangeSpec := { name := "fnExactWaysToMeasure", fn := fun _ => fun
  | [d1, d2] => { results := [.lit (.bool true)], args := [d1, d2] }
  | _ => none }
def fnExactWaysToMeasureRow : OpenClaim := { program := "ytfapijfjonnmcaa", sum := "f69827681cf218a93d4c182ac34aa938db396f46aa19eed4b30ec5666546cd35", func := "loop.example/g01305/laws.FnExactWaysToMeasure", spec := "fnExactWaysToMeasure", apart := false }
def FnExactWaysToMeasureSaid : Prop := fnExactWaysToMeasureRow.holds Try.pinned (OpenSpec.ofChange fnExactWaysToMeasureSpec)

/-- ITS FALSE NEIGHBOUR: 'it returns false'. Refute it at one input. -/
def fnExactWaysToMeasureWrong : ChangeSpec := { name := "fnExactWaysToMeasure", fn := fun _ => fun
  | [d1, d2] => { results := [.lit (.bool false)], args := [d1, d2] }
  | _ => none }
def FnExactWaysToMeasureWrongFalsely : Prop := fnExactWaysToMeasureRow.holds Try.pinned (OpenSpec.ofChange fnExactWaysToMeasureWrong)

/-- 'laws.FnExactGrowRuler': WHATEVER THE INPUT: true; the input reads as it did. -/
def fnExactGrowRulerSpec : ChangeSpec := { name := "fnExactGrowRuler", fn := fun _ => fun
  | [d1, d2] => { results := [.lit (.bool true)], args := [d1, d2] }
  | _ => none }
def fnExactGrowRulerRow : OpenClaim := { program := "ytfapijfjonnmcaa", sum := "f69827681cf218a93d4c182ac34aa938db396f46aa19eed4b30ec5666546cd35", func := "loop.example/g01305/laws.FnExactGrowRuler", spec := "fnExactGrowRuler", apart := false }
def FnExactGrowRulerSaid : Prop := fnExactGrowRulerRow.holds Try.pinned (OpenSpec.ofChange fnExactGrowRulerSpec)

/-- ITS FALSE NEIGHBOUR: 'it returns false'. Refute it at one input. -/
def fnExactGrowRulerWrong : ChangeSpec := { name := "fnExactGrowRuler", fn := fun _ => fun
  | [d1, d2] => { results := [.lit (.bool false)], args := [d1, d2] }
  | _ => none }
def FnExactGrowRulerWrongFalsely : Prop := fnExactGrowRulerRow.holds Try.pinned (OpenSpec.ofChange fnExactGrowRulerWrong)

/-- 'laws.FnExactMirrorCuts': WHATEVER THE INPUT: true; the input reads as it did. -/
def fnExactMirrorCutsSpec : ChangeSpec := { name := "fnExactMirrorCuts", fn := fun _ => fun
  | [d1, d2] => { results := [.lit (.bool true)], args := [d1, d2] }
  | _ => none }
def fnExactMirrorCutsRow : OpenClaim := { program := "ytfapijfjonnmcaa", sum := "f69827681cf218a93d4c182ac34aa938db396f46aa19eed4b30ec5666546cd35", func := "loop.example/g01305/laws.FnExactMirrorCuts", spec := "fnExactMirrorCuts", unfollowed := true, recurses := true, apart := false }
def FnExactMirrorCutsSaid : Prop := fnExactMirrorCutsRow.holds Try.pinned (OpenSpec.ofChange fnExactMirrorCutsSpec)

/-- ITS FALSE NEIGHBOUR: 'it returns false'. Refute it at one input. -/
def fnExactMirrorCutsWrong : ChangeSpec := { name := "fnExactMirrorCuts", fn := fun _ => fun
  | [d1, d2] => { results := [.lit (.bool false)], args := [d1, d2] }
  | _ => none }
def FnExactMirrorCutsWrongFalsely : Prop := fnExactMirrorCutsRow.holds Try.pinned (OpenSpec.ofChange fnExactMirrorCutsWrong)

/-- 'laws.FnExactPartsOfCuts': WHATEVER THE INPUT: true; the input reads as it did. -/
def fnExactPartsOfCutsSpec : ChangeSpec := { name := "fnExactPartsOfCuts", fn := fun _ => fun
  | [d1, d2] => { results := [.lit (.bool true)], args := [d1, d2] }
  | _ => none }
def fnExactPartsOfCutsRow : OpenClaim := { program := "ytfapijfjonnmcaa", sum := "f69827681cf218a93d4c182ac34aa938db396f46aa19eed4b30ec5666546cd35", func := "loop.example/g01305/laws.FnExactPartsOfCuts", spec := "fnExactPartsOfCuts", unfollowed := true, recurses := true, apart := false }
def FnExactPartsOfCutsSaid : Prop := fnExactPartsOfCutsRow.holds Try.pinned (OpenSpec.ofChange fnExactPartsOfCutsSpec)

/-- ITS FALSE NEIGHBOUR: 'it returns false'. Refute it at one input. -/
def fnExactPartsOfCutsWrong : ChangeSpec := { name := "fnExactPartsOfCuts", fn := fun _ => fun
  | [d1, d2] => { results := [.lit (.bool false)], args := [d1, d2] }
  | _ => none }
def FnExactPartsOfCutsWrongFalsely : Prop := fnExactPartsOfCutsRow.holds Try.pinned (OpenSpec.ofChange fnExactPartsOfCutsWrong)

/-- 'laws.FnExactFewestToJoin': WHATEVER THE INPUT: true; the input reads as it did. -/
def fnExactFewestToJoinSpec : ChangeSpec := { name := "fnExactFewestToJoin", fn := fun _ => fun
  | [d] => { results := [.lit (.bool true)], args := [d] }
  | _ => none }
def fnExactFewestToJoinRow : OpenClaim := { program := "ytfapijfjonnmcaa", sum := "f69827681cf218a93d4c182ac34aa938db396f46aa19eed4b30ec5666546cd35", func := "loop.example/g01305/laws.FnExactFewestToJoin", spec := "fnExactFewestToJoin", unfollowed := true, recurses := true, apart := false }
def FnExactFewestToJoinSaid : Prop := fnExactFewestToJoinRow.holds Try.pinned (OpenSpec.ofChange fnExactFewestToJoinSpec)

/-- ITS FALSE NEIGHBOUR: 'it returns false'. Refute it at one input. -/
def fnExactFewestToJoinWrong : ChangeSpec := { name := "fnExactFewestToJoin", fn := fun _ => fun
  | [d] => { results := [.lit (.bool false)], args := [d] }
  | _ => none }
def FnExactFewestToJoinWrongFalsely : Prop := fnExactFewestToJoinRow.holds Try.pinned (OpenSpec.ofChange fnExactFewestToJoinWrong)

/- THE SECOND FORM. 'bulk': how many values and letters a reading holds, each counted each time it is reached (what is shared counts as often as it is met; a slice's spare places count too). A statement '..UptoSaid' is the law's where the arguments, and the package variables that the reading takes, are together of bulk at most 1048576: NARROWER than '..Said'. Prove '..Said' where nothing that the law and all that it calls make is longer than what came in: it says more and counts as full. Else prove '..UptoSaid'. A law counts once. -/
mutual
def uptoBulk {H : Type} : DataW H → Nat
  | .lit (.string bytes) => bytes.length + 1
  | .lit _ => 1
  | .nil => 1
  | .ptr d => uptoBulk d + 1
  | .slice elems spare => uptoBulkAll elems + uptoBulkAll spare + 1
  | .agg parts => uptoBulkAll parts + 1
  | .iface _ d => uptoBulk d + 1
  | .map entries => uptoBulkEntries entries + 1
  | .held _ => 1
def uptoBulkAll {H : Type} : List (DataW H) → Nat
  | [] => 0
  | d :: r => uptoBulk d + uptoBulkAll r
def uptoBulkEntries {H : Type} : List (Lit × DataW H) → Nat
  | [] => 0
  | x :: r => uptoBulkEntry x + uptoBulkEntries r
def uptoBulkEntry {H : Type} : Lit × DataW H → Nat
  | (.string bytes, d) => bytes.length + uptoBulk d + 1
  | (_, d) => uptoBulk d + 1
 end
def uptoSmall : (H : Type) → List (DataW H) → Bool := fun _ ds => decide (uptoBulkAll ds ≤ 1048576)
def OpenSpec.upto (s : _root_.Go.ChangeSpec) : _root_.Go.OpenSpec := { _root_.Go.OpenSpec.ofChange s with cond := some uptoSmall }

/-- 'laws.FnExactIsRuler', WHERE WHAT IT READS IS OF BULK AT MOST 1048576: true; the input reads as it did. -/
def fnExactIsRulerUptoRow : OpenClaim := { program := "ytfapijfjonnmcaa", sum := "f69827681cf218a93d4c182ac34aa938db396f46aa19eed4b30ec5666546cd35", func := "loop.example/g01305/laws.FnExactIsRuler", spec := "fnExactIsRuler", apart := false, narrowed := true }
def FnExactIsRulerUptoSaid : Prop := fnExactIsRulerUptoRow.holds Try.pinned (OpenSpec.upto fnExactIsRulerSpec)

/-- 'laws.FnExactAreCuts', WHERE WHAT IT READS IS OF BULK AT MOST 1048576: true; the input reads as it did. -/
def fnExactAreCutsUptoRow : OpenClaim := { program := "ytfapijfjonnmcaa", sum := "f69827681cf218a93d4c182ac34aa938db396f46aa19eed4b30ec5666546cd35", func := "loop.example/g01305/laws.FnExactAreCuts", spec := "fnExactAreCuts", unfollowed := true, recurses := true, apart := false, narrowed := true }
def FnExactAreCutsUptoSaid : Prop := fnExactAreCutsUptoRow.holds Try.pinned (OpenSpec.upto fnExactAreCutsSpec)

/-- 'laws.FnExactWaysToMeasure', WHERE WHAT IT READS IS OF BULK AT MOST 1048576: true; the input reads as it did. -/
def fnExactWaysToMeasureUptoRow : OpenClaim := { program := "ytfapijfjonnmcaa", sum := "f69827681cf218a93d4c182ac34aa938db396f46aa19eed4b30ec5666546cd35", func := "loop.example/g01305/laws.FnExactWaysToMeasure", spec := "fnExactWaysToMeasure", apart := false, narrowed := true }
def FnExactWaysToMeasureUptoSaid : Prop := fnExactWaysToMeasureUptoRow.holds Try.pinned (OpenSpec.upto fnExactWaysToMeasureSpec)

/-- 'laws.FnExactGrowRuler', WHERE WHAT IT READS IS OF BULK AT MOST 1048576: true; the input reads as it did. -/
def fnExactGrowRulerUptoRow : OpenClaim := { program := "ytfapijfjonnmcaa", sum := "f69827681cf218a93d4c182ac34aa938db396f46aa19eed4b30ec5666546cd35", func := "loop.example/g01305/laws.FnExactGrowRuler", spec := "fnExactGrowRuler", apart := false, narrowed := true }
def FnExactGrowRulerUptoSaid : Prop := fnExactGrowRulerUptoRow.holds Try.pinned (OpenSpec.upto fnExactGrowRulerSpec)

/-- 'laws.FnExactMirrorCuts', WHERE WHAT IT READS IS OF BULK AT MOST 1048576: true; the input reads as it did. -/
def fnExactMirrorCutsUptoRow : OpenClaim := { program := "ytfapijfjonnmcaa", sum := "f69827681cf218a93d4c182ac34aa938db396f46aa19eed4b30ec5666546cd35", func := "loop.example/g01305/laws.FnExactMirrorCuts", spec := "fnExactMirrorCuts", unfollowed := true, recurses := true, apart := false, narrowed := true }
def FnExactMirrorCutsUptoSaid : Prop := fnExactMirrorCutsUptoRow.holds Try.pinned (OpenSpec.upto fnExactMirrorCutsSpec)

/-- 'laws.FnExactPartsOfCuts', WHERE WHAT IT READS IS OF BULK AT MOST 1048576: true; the input reads as it did. -/
def fnExactPartsOfCutsUptoRow : OpenClaim := { program := "ytfapijfjonnmcaa", sum := "f69827681cf218a93d4c182ac34aa938db396f46aa19eed4b30ec5666546cd35", func := "loop.example/g01305/laws.FnExactPartsOfCuts", spec := "fnExactPartsOfCuts", unfollowed := true, recurses := true, apart := false, narrowed := true }
def FnExactPartsOfCutsUptoSaid : Prop := fnExactPartsOfCutsUptoRow.holds Try.pinned (OpenSpec.upto fnExactPartsOfCutsSpec)

/-- 'laws.FnExactFewestToJoin', WHERE WHAT IT READS IS OF BULK AT MOST 1048576: true; the input reads as it did. -/
def fnExactFewestToJoinUptoRow : OpenClaim := { program := "ytfapijfjonnmcaa", sum := "f69827681cf218a93d4c182ac34aa938db396f46aa19eed4b30ec5666546cd35", func := "loop.example/g01305/laws.FnExactFewestToJoin", spec := "fnExactFewestToJoin", unfollowed := true, recurses := true, apart := false, narrowed := true }
def FnExactFewestToJoinUptoSaid : Prop := fnExactFewestToJoinUptoRow.holds Try.pinned (OpenSpec.upto fnExactFewestToJoinSpec)

end Rows
end Go.Proofs.Ytfapijfjonnmcaa
