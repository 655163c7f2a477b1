-- Written by a program of the session over the kit's print, some functions given by hand.
import Derived.Test.YtpeebjnfmlfocaaProg
import Derived.Below
import Derived.Deep.Draws
import Derived.Deep.AppendLies
import Derived.Maps.AppendAt
import Derived.OwnWalk
import Derived.Laws.BytesArg
import Derived.Laws.MakeOwn
import Derived.Laws.OwnMore
import Derived.Deep.OwnRows
import Derived.Tactics
import Derived.Lib.ConvBytes
import Derived.Laws.Slices
import Derived.WalkKit
import Derived.KernelRfl
import Derived.RowKit3
import Derived.Deep.LoopGhost
import Derived.Deep.QuietTactic
import Derived.BigQuiet
import Derived.WideLaws
import Derived.Deep.DeepCutAuto
import Derived.Deep.CutBlock
import Derived.Deep.RegionHeld3
import Derived.Laws.Rows
import Derived.Lib.AppendStr
import Derived.ArgAppend
import Derived.Laws.IdiomCopy
import Derived.OrdersHeld
import Derived.Laws.BitsLemmas
import Derived.RowKit
import Derived.Test.YtpeebjnfmlfocaaWWords
import Derived.Test.YtpeebjnfmlfocaaWLast
import Derived.Test.YtpeebjnfmlfocaaWTab
import Derived.Test.YtpeebjnfmlfocaaWFour
import Derived.Test.YtpeebjnfmlfocaaWQPut
import Derived.Test.YtpeebjnfmlfocaaWApart
import Derived.Test.YtpeebjnfmlfocaaWArr
import Derived.Test.YtpeebjnfmlfocaaWZeros
import Derived.Test.YtpeebjnfmlfocaaWFoot
import Derived.Test.YtpeebjnfmlfocaaWKept
import Derived.Test.YtpeebjnfmlfocaaWShare
import Derived.Test.YtpeebjnfmlfocaaWN
import Derived.Test.YtpeebjnfmlfocaaWFootNe
import Derived.Test.YtpeebjnfmlfocaaWAt
import Derived.Test.YtpeebjnfmlfocaaWEqStruct
import Derived.Test.YtpeebjnfmlfocaaWRepsOne
import Derived.Test.YtpeebjnfmlfocaaWInv
import Derived.Test.YtpeebjnfmlfocaaWInvWords
import Derived.Test.YtpeebjnfmlfocaaWGuard
import Derived.Test.YtpeebjnfmlfocaaWNEv
import Derived.Test.YtpeebjnfmlfocaaWMore
namespace Go.Proofs.Ytpeebjnfmlfocaa.Print
open Go.RowKit Go.Proofs.YtpeebjnfmlfocaaW.PrintWords Go.Proofs.YtpeebjnfmlfocaaW.PrintLast Go.Proofs.YtpeebjnfmlfocaaW.PrintMore
attribute [local go_sem] max2_int min2_int max_two min_two max_three min_three max_four min_four   -- for this text's walks alone
set_option linter.unusedVariables false
set_option linter.unusedSimpArgs false



def errW : Option Int → Value
  | none => .nilIface
  | some c => .iface 0 (.int .i64 c)
theorem errW_none : errW none = .nilIface := rfl
theorem errW_some (c : Int) : errW (some c) = .iface 0 (.int .i64 c) := rfl

theorem info5 : (Try.prog.info? 5).map (fun i => (i.zero, i.size, i.bytes)) = some (some (.int .u8 0), 1, 1) := by kernel_rfl
-- the values' own types

end Go.Proofs.Ytpeebjnfmlfocaa.Print
