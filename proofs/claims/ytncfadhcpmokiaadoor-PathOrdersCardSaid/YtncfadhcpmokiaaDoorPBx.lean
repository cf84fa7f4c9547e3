-- Printed by a program of this claim's session (xprint.py): the machine's side, checked by Lean.
import Derived.Test.YtncfadhcpmokiaaDoorPBx0
import Derived.Test.YtncfadhcpmokiaaDoorPBx1
import Derived.Test.YtncfadhcpmokiaaDoorPBx2
import Derived.Test.YtncfadhcpmokiaaDoorPBx3
import Derived.Test.YtncfadhcpmokiaaDoorPBx4
import Derived.Test.YtncfadhcpmokiaaDoorPBx5
import Derived.Test.YtncfadhcpmokiaaDoorPBx6
namespace Go.Proofs.YtncfadhcpmokiaaDoor.PB
open Go.Proofs.YtncfadhcpmokiaaDoor.GotoKit Go.Proofs.YtncfadhcpmokiaaDoor.Ext Go.Proofs.YtncfadhcpmokiaaDoor.PA Go.Proofs.YtncfadhcpmokiaaDoor.Told
open Go.RowKit Go.Proofs.YtncfadhcpmokiaaDoorW.PrintWords Go.Proofs.YtncfadhcpmokiaaDoorW.PrintLast Go.Proofs.YtncfadhcpmokiaaDoorW.PrintMore
attribute [local go_sem] max2_int min2_int max_two min_two max_three min_three max_four min_four   -- for this text's walks alone
set_option linter.unusedVariables false
set_option linter.unusedSimpArgs false

end Go.Proofs.YtncfadhcpmokiaaDoor.PB
