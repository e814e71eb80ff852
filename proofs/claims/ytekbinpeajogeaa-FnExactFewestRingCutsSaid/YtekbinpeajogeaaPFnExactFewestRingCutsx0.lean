-- Laid by this session by the help of the print: contracts proved by hand beside printed ones.
import Derived.Test.YtekbinpeajogeaaProg
import Derived.Below
import Derived.Deep.Draws
import Derived.Deep.AppendLies
import Derived.Maps.AppendAt
import Derived.OwnWalk
import Derived.Laws.BytesArg
import Derived.Laws.MakeOwn
import Derived.Laws.OwnMore
import Derived.Deep.OwnRows
import Derived.Tactics
import Derived.Lib.ConvBytes
import Derived.Laws.Slices
import Derived.WalkKit
import Derived.KernelRfl
import Derived.RowKit3
import Derived.Deep.LoopGhost
import Derived.Deep.QuietTactic
import Derived.BigQuiet
import Derived.WideLaws
import Derived.Deep.DeepCutAuto
import Derived.Deep.CutBlock
import Derived.Deep.RegionHeld3
import Derived.Laws.Rows
import Derived.Lib.AppendStr
import Derived.ArgAppend
import Derived.Laws.IdiomCopy
import Derived.OrdersHeld
import Derived.Laws.BitsLemmas
import Derived.RowKit
import Derived.Shelf.Abstract
import Derived.Lib.SliceRun
import Derived.Sort.OwnSortedInts
import Derived.Test.YtekbinpeajogeaaWWords
import Derived.Test.YtekbinpeajogeaaWLast
import Derived.Test.YtekbinpeajogeaaWTab
import Derived.Test.YtekbinpeajogeaaWFour
import Derived.Test.YtekbinpeajogeaaWQPut
import Derived.Test.YtekbinpeajogeaaWApart
import Derived.Test.YtekbinpeajogeaaWArr
import Derived.Test.YtekbinpeajogeaaWZeros
import Derived.Test.YtekbinpeajogeaaWFoot
import Derived.Test.YtekbinpeajogeaaWKept
import Derived.Test.YtekbinpeajogeaaWShare
import Derived.Test.YtekbinpeajogeaaWN
import Derived.Test.YtekbinpeajogeaaWFootNe
import Derived.Test.YtekbinpeajogeaaWAt
import Derived.Test.YtekbinpeajogeaaWEqStruct
import Derived.Test.YtekbinpeajogeaaWRepsOne
import Derived.Test.YtekbinpeajogeaaWInv
import Derived.Test.YtekbinpeajogeaaWInvWords
import Derived.Test.YtekbinpeajogeaaWGuard
import Derived.Test.YtekbinpeajogeaaWNEv
import Derived.Test.YtekbinpeajogeaaWMore
namespace Go.Proofs.Ytekbinpeajogeaa.PFnExactFewestRingCuts
open Go.RowKit Go.Proofs.YtekbinpeajogeaaW.PrintWords Go.Proofs.YtekbinpeajogeaaW.PrintLast Go.Proofs.YtekbinpeajogeaaW.PrintMore
attribute [local go_sem] max2_int min2_int max_two min_two max_three min_three max_four min_four   -- for this text's walks alone
set_option linter.unusedVariables false
set_option linter.unusedSimpArgs false



def errW : Option Int → Value
  | none => .nilIface
  | some c => .iface 0 (.int .i64 c)
theorem errW_none : errW none = .nilIface := rfl
theorem errW_some (c : Int) : errW (some c) = .iface 0 (.int .i64 c) := rfl

-- the values' own types

end Go.Proofs.Ytekbinpeajogeaa.PFnExactFewestRingCuts
