-- Written by a program of this session out of the translation. Lean checks it.
import Derived.Test.YteecekhfpfnepaaProg
import Derived.Below
import Derived.Deep.Draws
import Derived.Deep.AppendLies
import Derived.Maps.AppendAt
import Derived.OwnWalk
import Derived.Laws.BytesArg
import Derived.Laws.MakeOwn
import Derived.Laws.OwnMore
import Derived.Deep.OwnRows
import Derived.Tactics
import Derived.Lib.ConvBytes
import Derived.Laws.Slices
import Derived.WalkKit
import Derived.KernelRfl
import Derived.RowKit3
import Derived.Deep.LoopGhost
import Derived.Deep.QuietTactic
import Derived.BigQuiet
import Derived.WideLaws
import Derived.Deep.DeepCutAuto
import Derived.Deep.CutBlock
import Derived.Deep.RegionHeld3
import Derived.Laws.Rows
import Derived.Lib.AppendStr
import Derived.ArgAppend
import Derived.Laws.IdiomCopy
import Derived.OrdersHeld
import Derived.Laws.BitsLemmas
import Derived.RowKit
import Derived.Test.YteecekhfpfnepaaWWords
import Derived.Test.YteecekhfpfnepaaWLast
import Derived.Test.YteecekhfpfnepaaWTab
import Derived.Test.YteecekhfpfnepaaWFour
import Derived.Test.YteecekhfpfnepaaWQPut
import Derived.Test.YteecekhfpfnepaaWApart
import Derived.Test.YteecekhfpfnepaaWArr
import Derived.Test.YteecekhfpfnepaaWZeros
import Derived.Test.YteecekhfpfnepaaWFoot
import Derived.Test.YteecekhfpfnepaaWKept
import Derived.Test.YteecekhfpfnepaaWShare
import Derived.Test.YteecekhfpfnepaaWN
import Derived.Test.YteecekhfpfnepaaWFootNe
import Derived.Test.YteecekhfpfnepaaWAt
import Derived.Test.YteecekhfpfnepaaWEqStruct
import Derived.Test.YteecekhfpfnepaaWRepsOne
import Derived.Test.YteecekhfpfnepaaWInv
import Derived.Test.YteecekhfpfnepaaWInvWords
import Derived.Test.YteecekhfpfnepaaWGuard
import Derived.Test.YteecekhfpfnepaaWNEv
import Derived.Test.YteecekhfpfnepaaWMore
namespace Go.Proofs.Yteecekhfpfnepaa.PAll
open Go.RowKit Go.Proofs.YteecekhfpfnepaaW.PrintWords Go.Proofs.YteecekhfpfnepaaW.PrintLast Go.Proofs.YteecekhfpfnepaaW.PrintMore
attribute [local go_sem] max2_int min2_int max_two min_two max_three min_three max_four min_four   -- for this text's walks alone
set_option linter.unusedVariables false
set_option linter.unusedSimpArgs false



def errW : Option Int → Value
  | none => .nilIface
  | some c => .iface 0 (.int .i64 c)
theorem errW_none : errW none = .nilIface := rfl
theorem errW_some (c : Int) : errW (some c) = .iface 0 (.int .i64 c) := rfl

-- the values' own types

end Go.Proofs.Yteecekhfpfnepaa.PAll
