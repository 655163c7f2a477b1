-- Written by a program of the session over the kit's print, some functions given by hand.
import Derived.Test.YtpeebjnfmlfocaaDoorProg
import Derived.Below
import Derived.Deep.Draws
import Derived.Deep.AppendLies
import Derived.Maps.AppendAt
import Derived.OwnWalk
import Derived.Laws.BytesArg
import Derived.Laws.MakeOwn
import Derived.Laws.OwnMore
import Derived.Deep.OwnRows
import Derived.Tactics
import Derived.Lib.ConvBytes
import Derived.Laws.Slices
import Derived.WalkKit
import Derived.KernelRfl
import Derived.RowKit3
import Derived.Deep.LoopGhost
import Derived.Deep.QuietTactic
import Derived.BigQuiet
import Derived.WideLaws
import Derived.Deep.DeepCutAuto
import Derived.Deep.CutBlock
import Derived.Deep.RegionHeld3
import Derived.Laws.Rows
import Derived.Lib.AppendStr
import Derived.ArgAppend
import Derived.Laws.IdiomCopy
import Derived.OrdersHeld
import Derived.Laws.BitsLemmas
import Derived.RowKit
import Derived.Test.YtpeebjnfmlfocaaDoorWWords
import Derived.Test.YtpeebjnfmlfocaaDoorWLast
import Derived.Test.YtpeebjnfmlfocaaDoorWTab
import Derived.Test.YtpeebjnfmlfocaaDoorWFour
import Derived.Test.YtpeebjnfmlfocaaDoorWQPut
import Derived.Test.YtpeebjnfmlfocaaDoorWApart
import Derived.Test.YtpeebjnfmlfocaaDoorWArr
import Derived.Test.YtpeebjnfmlfocaaDoorWZeros
import Derived.Test.YtpeebjnfmlfocaaDoorWFoot
import Derived.Test.YtpeebjnfmlfocaaDoorWKept
import Derived.Test.YtpeebjnfmlfocaaDoorWShare
import Derived.Test.YtpeebjnfmlfocaaDoorWN
import Derived.Test.YtpeebjnfmlfocaaDoorWFootNe
import Derived.Test.YtpeebjnfmlfocaaDoorWAt
import Derived.Test.YtpeebjnfmlfocaaDoorWEqStruct
import Derived.Test.YtpeebjnfmlfocaaDoorWRepsOne
import Derived.Test.YtpeebjnfmlfocaaDoorWInv
import Derived.Test.YtpeebjnfmlfocaaDoorWInvWords
import Derived.Test.YtpeebjnfmlfocaaDoorWGuard
import Derived.Test.YtpeebjnfmlfocaaDoorWNEv
import Derived.Test.YtpeebjnfmlfocaaDoorWMore
namespace Go.Proofs.YtpeebjnfmlfocaaDoor.Tn
open Go.RowKit Go.Proofs.YtpeebjnfmlfocaaDoorW.PrintWords Go.Proofs.YtpeebjnfmlfocaaDoorW.PrintLast Go.Proofs.YtpeebjnfmlfocaaDoorW.PrintMore
attribute [local go_sem] max2_int min2_int max_two min_two max_three min_three max_four min_four   -- for this text's walks alone
set_option linter.unusedVariables false
set_option linter.unusedSimpArgs false



def errW : Option Int → Value
  | none => .nilIface
  | some c => .iface 0 (.int .i64 c)
theorem errW_none : errW none = .nilIface := rfl
theorem errW_some (c : Int) : errW (some c) = .iface 0 (.int .i64 c) := rfl

-- the values' own types

end Go.Proofs.YtpeebjnfmlfocaaDoor.Tn
