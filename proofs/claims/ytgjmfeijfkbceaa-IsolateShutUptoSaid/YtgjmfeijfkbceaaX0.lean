-- Written by this session's own program over the seat's translation (a changed print); not the kit's printed text
import Derived.Test.YtgjmfeijfkbceaaProg
import Derived.WalkMore
import Derived.Below
import Derived.Deep.Draws
import Derived.Deep.AppendLies
import Derived.Maps.AppendAt
import Derived.OwnWalk
import Derived.Laws.BytesArg
import Derived.Laws.MakeOwn
import Derived.Laws.OwnMore
import Derived.Deep.OwnRows
import Derived.Tactics
import Derived.Lib.ConvBytes
import Derived.Laws.Slices
import Derived.WalkKit
import Derived.KernelRfl
import Derived.RowKit3
import Derived.Deep.LoopGhost
import Derived.Deep.QuietTactic
import Derived.BigQuiet
import Derived.WideLaws
import Derived.Deep.DeepCutAuto
import Derived.Deep.CutBlock
import Derived.Deep.RegionHeld3
import Derived.Laws.Rows
import Derived.Lib.AppendStr
import Derived.ArgAppend
import Derived.Laws.IdiomCopy
import Derived.OrdersHeld
import Derived.Laws.BitsLemmas
import Derived.RowKit
import Derived.Test.YtgjmfeijfkbceaaWWords
import Derived.Test.YtgjmfeijfkbceaaWLast
import Derived.Test.YtgjmfeijfkbceaaWTab
import Derived.Test.YtgjmfeijfkbceaaWFour
import Derived.Test.YtgjmfeijfkbceaaWQPut
import Derived.Test.YtgjmfeijfkbceaaWApart
import Derived.Test.YtgjmfeijfkbceaaWArr
import Derived.Test.YtgjmfeijfkbceaaWZeros
import Derived.Test.YtgjmfeijfkbceaaWFoot
import Derived.Test.YtgjmfeijfkbceaaWKept
import Derived.Test.YtgjmfeijfkbceaaWShare
import Derived.Test.YtgjmfeijfkbceaaWN
import Derived.Test.YtgjmfeijfkbceaaWFootNe
import Derived.Test.YtgjmfeijfkbceaaWAt
import Derived.Test.YtgjmfeijfkbceaaWEqStruct
import Derived.Test.YtgjmfeijfkbceaaWRepsOne
import Derived.Test.YtgjmfeijfkbceaaWInv
import Derived.Test.YtgjmfeijfkbceaaWInvWords
import Derived.Test.YtgjmfeijfkbceaaWGuard
import Derived.Test.YtgjmfeijfkbceaaWNEv
import Derived.Test.YtgjmfeijfkbceaaWMore
namespace Go.Proofs.Ytgjmfeijfkbceaa.X
open Go.RowKit Go.Proofs.YtgjmfeijfkbceaaW.PrintWords Go.Proofs.YtgjmfeijfkbceaaW.PrintLast Go.Proofs.YtgjmfeijfkbceaaW.PrintMore
attribute [local go_sem] max2_int min2_int max_two min_two max_three min_three max_four min_four   -- for this text's walks alone
set_option linter.unusedVariables false
set_option linter.unusedSimpArgs false



def errW : Option Int → Value
  | none => .nilIface
  | some c => .iface 0 (.int .i64 c)
theorem errW_none : errW none = .nilIface := rfl
theorem errW_some (c : Int) : errW (some c) = .iface 0 (.int .i64 c) := rfl

theorem info3 : (Try.prog.info? 3).map (fun i => (i.zero, i.size, i.bytes)) = some (some (.int .i64 0), 1, 8) := by kernel_rfl
-- the values' own types

end Go.Proofs.Ytgjmfeijfkbceaa.X
