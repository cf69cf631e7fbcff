-- Laid by this session's program out of the translation (gen.sh).
import Derived.Test.YthojmgliknacfaaProg
import Derived.Below
import Derived.Deep.Draws
import Derived.Deep.AppendLies
import Derived.Maps.AppendAt
import Derived.OwnWalk
import Derived.Laws.BytesArg
import Derived.Laws.MakeOwn
import Derived.Laws.OwnMore
import Derived.Deep.OwnRows
import Derived.Tactics
import Derived.Lib.ConvBytes
import Derived.Laws.Slices
import Derived.WalkKit
import Derived.KernelRfl
import Derived.RowKit3
import Derived.Deep.LoopGhost
import Derived.Deep.QuietTactic
import Derived.BigQuiet
import Derived.WideLaws
import Derived.Deep.DeepCutAuto
import Derived.Deep.CutBlock
import Derived.Deep.RegionHeld3
import Derived.Laws.Rows
import Derived.Lib.AppendStr
import Derived.ArgAppend
import Derived.Laws.IdiomCopy
import Derived.OrdersHeld
import Derived.Laws.BitsLemmas
import Derived.RowKit
import Derived.Test.YthojmgliknacfaaThW
import Derived.Test.YthojmgliknacfaaThO
import Derived.Test.YthojmgliknacfaaWWords
import Derived.Test.YthojmgliknacfaaWLast
import Derived.Test.YthojmgliknacfaaWTab
import Derived.Test.YthojmgliknacfaaWFour
import Derived.Test.YthojmgliknacfaaWQPut
import Derived.Test.YthojmgliknacfaaWApart
import Derived.Test.YthojmgliknacfaaWArr
import Derived.Test.YthojmgliknacfaaWZeros
import Derived.Test.YthojmgliknacfaaWFoot
import Derived.Test.YthojmgliknacfaaWKept
import Derived.Test.YthojmgliknacfaaWShare
import Derived.Test.YthojmgliknacfaaWN
import Derived.Test.YthojmgliknacfaaWFootNe
import Derived.Test.YthojmgliknacfaaWAt
import Derived.Test.YthojmgliknacfaaWEqStruct
import Derived.Test.YthojmgliknacfaaWRepsOne
import Derived.Test.YthojmgliknacfaaWInv
import Derived.Test.YthojmgliknacfaaWInvWords
import Derived.Test.YthojmgliknacfaaWGuard
import Derived.Test.YthojmgliknacfaaWNEv
import Derived.Test.YthojmgliknacfaaWMore
namespace Go.Proofs.Ythojmgliknacfaa.PFnExactConstants
open Go.RowKit Go.Proofs.YthojmgliknacfaaW.PrintWords Go.Proofs.YthojmgliknacfaaW.PrintLast Go.Proofs.YthojmgliknacfaaW.PrintMore
attribute [local go_sem] max2_int min2_int max_two min_two max_three min_three max_four min_four   -- for this text's walks alone
set_option linter.unusedVariables false
set_option linter.unusedSimpArgs false



def errW : Option Int → Value
  | none => .nilIface
  | some c => .iface 0 (.int .i64 c)
theorem errW_none : errW none = .nilIface := rfl
theorem errW_some (c : Int) : errW (some c) = .iface 0 (.int .i64 c) := rfl

-- the values' own types

end Go.Proofs.Ythojmgliknacfaa.PFnExactConstants
