/-
  DERIVED. GIVEN WITH THE SEED: THE CARDS: each row of YtncfadhcpmokiaaDoorRows.lean that lists a variable, with what it lists TIED to the program's text (the seventh form; the later family's looks); each row that meets fmt, with fmt's text TOLD by the authors' own Lean function (tested against real Go, not proved from fmt's source: count such statements apart). THE CARD IS WHAT COUNTS. Prove the row's statement (the work); the ties are given (YtncfadhcpmokiaaDoorTie.lean); close each card by the builder's one call (the guide's Derived/Test/ToyasCard.lean, 'card_holds'). Laid BY PROGRAM, IN A SANDBOX (cutbox-door.mjs). By AI agents, Wed Nov 11 2026. No macro, syntax, notation, axiom, sorry.
-/
import Derived.Test.YtncfadhcpmokiaaDoorRows
import GoSem.ClaimSeven
namespace Go.Proofs.YtncfadhcpmokiaaDoor
namespace Rows

/-- THE TIED CARD OF 'steamerlaw1.PathAsks'. -/
def pathAsksCard : Claim7 := { stood := { row := pathAsksRow, standIns := [], harness := (true, "9116279e6fd733673d97f35d10afe1484e38b7223e72981c68566bb3ef90f310"), looks := false }, kinds := [], alts := [], laidByText := true, laidKinds := [.data, .pinned], laidTests := true, laidLooks := .later }
def PathAsksCardSaid : Prop := Claim7.holds Tryd.pinned (.plain (OpenSpec.ofChange pathAsksSpec)) pathAsksCard

/-- THE TIED CARD OF 'steamerlaw1.PathJoins'. -/
def pathJoinsCard : Claim7 := { stood := { row := pathJoinsRow, standIns := [], harness := (true, "9116279e6fd733673d97f35d10afe1484e38b7223e72981c68566bb3ef90f310"), looks := false }, kinds := [], alts := [], laidByText := true, laidKinds := [.data, .pinned], laidTests := true, laidLooks := .later }
def PathJoinsCardSaid : Prop := Claim7.holds Tryd.pinned (.plain (OpenSpec.ofChange pathJoinsSpec)) pathJoinsCard

/-- THE TIED CARD OF 'steamerlaw1.PathOrders'. -/
def pathOrdersCard : Claim7 := { stood := { row := pathOrdersRow, standIns := [], harness := (true, "9116279e6fd733673d97f35d10afe1484e38b7223e72981c68566bb3ef90f310"), looks := false }, kinds := [], alts := [], laidByText := true, laidKinds := [.data, .pinned], laidTests := true, laidLooks := .later }
def PathOrdersCardSaid : Prop := Claim7.holds Tryd.pinned (.plain (OpenSpec.ofChange pathOrdersSpec)) pathOrdersCard

/-- THE TIED CARD OF 'steamerlaw1.PathNames'. -/
def pathNamesCard : Claim7 := { stood := { row := pathNamesRow, standIns := [], harness := (true, "9116279e6fd733673d97f35d10afe1484e38b7223e72981c68566bb3ef90f310"), looks := false }, kinds := [], alts := [], laidByText := true, laidKinds := [.data, .pinned], laidTests := true, laidLooks := .later }
def PathNamesCardSaid : Prop := Claim7.holds Tryd.pinned (.plain (OpenSpec.ofChange pathNamesSpec)) pathNamesCard

/-- THE TIED CARD OF 'steamerlaw1.PathDeep'. -/
def pathDeepCard : Claim7 := { stood := { row := pathDeepRow, standIns := [], harness := (true, "9116279e6fd733673d97f35d10afe1484e38b7223e72981c68566bb3ef90f310"), looks := false }, kinds := [], alts := [], laidByText := true, laidKinds := [.data, .pinned], laidTests := true, laidLooks := .later }
def PathDeepCardSaid : Prop := Claim7.holds Tryd.pinned (.plain (OpenSpec.ofChange pathDeepSpec)) pathDeepCard

/-- THE SECOND FORM's CARD OF 'steamerlaw1.PathAsks'. -/
def pathAsksUptoCard : Claim7 := { stood := { row := pathAsksUptoRow, standIns := [], harness := (true, "9116279e6fd733673d97f35d10afe1484e38b7223e72981c68566bb3ef90f310"), looks := false }, kinds := [], alts := [], laidByText := true, laidKinds := [.data, .pinned], laidTests := true, laidLooks := .later }
def PathAsksUptoCardSaid : Prop := Claim7.holds Tryd.pinned (.plain (OpenSpec.upto pathAsksSpec)) pathAsksUptoCard

/-- THE SECOND FORM's CARD OF 'steamerlaw1.PathJoins'. -/
def pathJoinsUptoCard : Claim7 := { stood := { row := pathJoinsUptoRow, standIns := [], harness := (true, "9116279e6fd733673d97f35d10afe1484e38b7223e72981c68566bb3ef90f310"), looks := false }, kinds := [], alts := [], laidByText := true, laidKinds := [.data, .pinned], laidTests := true, laidLooks := .later }
def PathJoinsUptoCardSaid : Prop := Claim7.holds Tryd.pinned (.plain (OpenSpec.upto pathJoinsSpec)) pathJoinsUptoCard

/-- THE SECOND FORM's CARD OF 'steamerlaw1.PathOrders'. -/
def pathOrdersUptoCard : Claim7 := { stood := { row := pathOrdersUptoRow, standIns := [], harness := (true, "9116279e6fd733673d97f35d10afe1484e38b7223e72981c68566bb3ef90f310"), looks := false }, kinds := [], alts := [], laidByText := true, laidKinds := [.data, .pinned], laidTests := true, laidLooks := .later }
def PathOrdersUptoCardSaid : Prop := Claim7.holds Tryd.pinned (.plain (OpenSpec.upto pathOrdersSpec)) pathOrdersUptoCard

/-- THE SECOND FORM's CARD OF 'steamerlaw1.PathNames'. -/
def pathNamesUptoCard : Claim7 := { stood := { row := pathNamesUptoRow, standIns := [], harness := (true, "9116279e6fd733673d97f35d10afe1484e38b7223e72981c68566bb3ef90f310"), looks := false }, kinds := [], alts := [], laidByText := true, laidKinds := [.data, .pinned], laidTests := true, laidLooks := .later }
def PathNamesUptoCardSaid : Prop := Claim7.holds Tryd.pinned (.plain (OpenSpec.upto pathNamesSpec)) pathNamesUptoCard

/-- THE SECOND FORM's CARD OF 'steamerlaw1.PathDeep'. -/
def pathDeepUptoCard : Claim7 := { stood := { row := pathDeepUptoRow, standIns := [], harness := (true, "9116279e6fd733673d97f35d10afe1484e38b7223e72981c68566bb3ef90f310"), looks := false }, kinds := [], alts := [], laidByText := true, laidKinds := [.data, .pinned], laidTests := true, laidLooks := .later }
def PathDeepUptoCardSaid : Prop := Claim7.holds Tryd.pinned (.plain (OpenSpec.upto pathDeepSpec)) pathDeepUptoCard
end Rows
end Go.Proofs.YtncfadhcpmokiaaDoor
