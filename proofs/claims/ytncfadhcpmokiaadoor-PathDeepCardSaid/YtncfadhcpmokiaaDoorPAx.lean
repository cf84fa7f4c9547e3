-- Printed by a program of this claim's session (xprint.py): the machine's side, checked by Lean.
import Derived.Test.YtncfadhcpmokiaaDoorPAx0
import Derived.Test.YtncfadhcpmokiaaDoorPAx1
import Derived.Test.YtncfadhcpmokiaaDoorPAx2
namespace Go.Proofs.YtncfadhcpmokiaaDoor.PA
open Go.Proofs.YtncfadhcpmokiaaDoor.GotoKit Go.Proofs.YtncfadhcpmokiaaDoor.Ext
open Go.RowKit Go.Proofs.YtncfadhcpmokiaaDoorW.PrintWords Go.Proofs.YtncfadhcpmokiaaDoorW.PrintLast Go.Proofs.YtncfadhcpmokiaaDoorW.PrintMore
attribute [local go_sem] max2_int min2_int max_two min_two max_three min_three max_four min_four   -- for this text's walks alone
set_option linter.unusedVariables false
set_option linter.unusedSimpArgs false

end Go.Proofs.YtncfadhcpmokiaaDoor.PA
