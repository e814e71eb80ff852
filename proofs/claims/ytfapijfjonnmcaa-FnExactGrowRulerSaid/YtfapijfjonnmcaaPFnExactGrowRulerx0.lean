-- Laid by this session by the help of the print: contracts proved by hand beside printed ones.
import Derived.Test.YtfapijfjonnmcaaProg
import Derived.Below
import Derived.Deep.Draws
import Derived.Deep.AppendLies
import Derived.Maps.AppendAt
import Derived.OwnWalk
import Derived.Laws.BytesArg
import Derived.Laws.MakeOwn
import Derived.Laws.OwnMore
import Derived.Deep.OwnRows
import Derived.Tactics
import Derived.Lib.ConvBytes
import Derived.Laws.Slices
import Derived.WalkKit
import Derived.KernelRfl
import Derived.RowKit3
import Derived.Deep.LoopGhost
import Derived.Deep.QuietTactic
import Derived.BigQuiet
import Derived.WideLaws
import Derived.Deep.DeepCutAuto
import Derived.Deep.CutBlock
import Derived.Deep.RegionHeld3
import Derived.Laws.Rows
import Derived.Lib.AppendStr
import Derived.ArgAppend
import Derived.Laws.IdiomCopy
import Derived.OrdersHeld
import Derived.Laws.BitsLemmas
import Derived.RowKit
import Derived.Shelf.Abstract
import Derived.Test.YtfapijfjonnmcaaWWords
import Derived.Test.YtfapijfjonnmcaaWLast
import Derived.Test.YtfapijfjonnmcaaWTab
import Derived.Test.YtfapijfjonnmcaaWFour
import Derived.Test.YtfapijfjonnmcaaWQPut
import Derived.Test.YtfapijfjonnmcaaWApart
import Derived.Test.YtfapijfjonnmcaaWArr
import Derived.Test.YtfapijfjonnmcaaWZeros
import Derived.Test.YtfapijfjonnmcaaWFoot
import Derived.Test.YtfapijfjonnmcaaWKept
import Derived.Test.YtfapijfjonnmcaaWShare
import Derived.Test.YtfapijfjonnmcaaWN
import Derived.Test.YtfapijfjonnmcaaWFootNe
import Derived.Test.YtfapijfjonnmcaaWAt
import Derived.Test.YtfapijfjonnmcaaWEqStruct
import Derived.Test.YtfapijfjonnmcaaWRepsOne
import Derived.Test.YtfapijfjonnmcaaWInv
import Derived.Test.YtfapijfjonnmcaaWInvWords
import Derived.Test.YtfapijfjonnmcaaWGuard
import Derived.Test.YtfapijfjonnmcaaWNEv
import Derived.Test.YtfapijfjonnmcaaWMore
namespace Go.Proofs.Ytfapijfjonnmcaa.PFnExactGrowRuler
open Go.RowKit Go.Proofs.YtfapijfjonnmcaaW.PrintWords Go.Proofs.YtfapijfjonnmcaaW.PrintLast Go.Proofs.YtfapijfjonnmcaaW.PrintMore
attribute [local go_sem] max2_int min2_int max_two min_two max_three min_three max_four min_four   -- for this text's walks alone
set_option linter.unusedVariables false
set_option linter.unusedSimpArgs false



def errW : Option Int → Value
  | none => .nilIface
  | some c => .iface 0 (.int .i64 c)
theorem errW_none : errW none = .nilIface := rfl
theorem errW_some (c : Int) : errW (some c) = .iface 0 (.int .i64 c) := rfl

theorem info3 : (Try.prog.info? 3).map (fun i => (i.zero, i.size, i.bytes)) = some (some (.int .i64 0), 1, 8) := by kernel_rfl
-- the values' own types

theorem tdiv60 (t : Int) : Int.tdiv 60 t = 60 / t := Int.tdiv_eq_ediv_of_nonneg (by decide)

end Go.Proofs.Ytfapijfjonnmcaa.PFnExactGrowRuler
