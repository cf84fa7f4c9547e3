-- Printed by a program of this claim's session (xprint.py): the machine's side, checked by Lean.
import Derived.Test.YtncfadhcpmokiaaDoorProg
import Derived.Below
import Derived.Deep.Draws
import Derived.Deep.AppendLies
import Derived.Maps.AppendAt
import Derived.OwnWalk
import Derived.Laws.BytesArg
import Derived.Laws.MakeOwn
import Derived.Laws.OwnMore
import Derived.Deep.OwnRows
import Derived.Tactics
import Derived.Lib.ConvBytes
import Derived.Laws.Slices
import Derived.WalkKit
import Derived.KernelRfl
import Derived.RowKit3
import Derived.Deep.LoopGhost
import Derived.Deep.QuietTactic
import Derived.BigQuiet
import Derived.WideLaws
import Derived.Deep.DeepCutAuto
import Derived.Deep.CutBlock
import Derived.Deep.RegionHeld3
import Derived.Laws.Rows
import Derived.Lib.AppendStr
import Derived.ArgAppend
import Derived.Laws.IdiomCopy
import Derived.OrdersHeld
import Derived.Laws.BitsLemmas
import Derived.RowKit
import Derived.Test.YtncfadhcpmokiaaDoorGotoKit
import Derived.Test.YtncfadhcpmokiaaDoorPAx
import Derived.Test.YtncfadhcpmokiaaDoorTold
import Derived.Test.YtncfadhcpmokiaaDoorWWords
import Derived.Test.YtncfadhcpmokiaaDoorWLast
import Derived.Test.YtncfadhcpmokiaaDoorWTab
import Derived.Test.YtncfadhcpmokiaaDoorWFour
import Derived.Test.YtncfadhcpmokiaaDoorWQPut
import Derived.Test.YtncfadhcpmokiaaDoorWApart
import Derived.Test.YtncfadhcpmokiaaDoorWArr
import Derived.Test.YtncfadhcpmokiaaDoorWZeros
import Derived.Test.YtncfadhcpmokiaaDoorWFoot
import Derived.Test.YtncfadhcpmokiaaDoorWKept
import Derived.Test.YtncfadhcpmokiaaDoorWShare
import Derived.Test.YtncfadhcpmokiaaDoorWN
import Derived.Test.YtncfadhcpmokiaaDoorWFootNe
import Derived.Test.YtncfadhcpmokiaaDoorWAt
import Derived.Test.YtncfadhcpmokiaaDoorWEqStruct
import Derived.Test.YtncfadhcpmokiaaDoorWRepsOne
import Derived.Test.YtncfadhcpmokiaaDoorWInv
import Derived.Test.YtncfadhcpmokiaaDoorWInvWords
import Derived.Test.YtncfadhcpmokiaaDoorWGuard
import Derived.Test.YtncfadhcpmokiaaDoorWNEv
import Derived.Test.YtncfadhcpmokiaaDoorWMore
namespace Go.Proofs.YtncfadhcpmokiaaDoor.PB
open Go.Proofs.YtncfadhcpmokiaaDoor.GotoKit Go.Proofs.YtncfadhcpmokiaaDoor.Ext Go.Proofs.YtncfadhcpmokiaaDoor.PA Go.Proofs.YtncfadhcpmokiaaDoor.Told
open Go.RowKit Go.Proofs.YtncfadhcpmokiaaDoorW.PrintWords Go.Proofs.YtncfadhcpmokiaaDoorW.PrintLast Go.Proofs.YtncfadhcpmokiaaDoorW.PrintMore
attribute [local go_sem] max2_int min2_int max_two min_two max_three min_three max_four min_four   -- for this text's walks alone
set_option linter.unusedVariables false
set_option linter.unusedSimpArgs false



def errW : Option Int → Value
  | none => .nilIface
  | some c => .iface 0 (.int .i64 c)
theorem errW_none : errW none = .nilIface := rfl
theorem errW_some (c : Int) : errW (some c) = .iface 0 (.int .i64 c) := rfl

theorem info9 : (Tryd.prog.info? 9).map (fun i => (i.zero, i.size, i.bytes)) = some (some (.string ⟨#[]⟩), 1, 16) := by kernel_rfl
-- the values' own types

end Go.Proofs.YtncfadhcpmokiaaDoor.PB
