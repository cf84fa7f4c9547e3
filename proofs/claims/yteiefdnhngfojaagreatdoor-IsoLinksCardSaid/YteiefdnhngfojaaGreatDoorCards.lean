/-
  DERIVED. GIVEN WITH THE SEED: THE CARDS: each row of YteiefdnhngfojaaGreatDoorRows.lean that lists a variable, with what it lists TIED to the program's text (the seventh form; the later family's looks); each row that meets fmt, with fmt's text TOLD by the authors' own Lean function (tested against real Go, not proved from fmt's source: count such statements apart). THE CARD IS WHAT COUNTS. Prove the row's statement (the work); the ties are given (YteiefdnhngfojaaGreatDoorTie.lean); close each card by the builder's one call (the guide's Derived/Test/ToyasCard.lean, 'card_holds'). Laid BY PROGRAM, IN A SANDBOX (cutbox-door.mjs). By AI agents, Wed Nov 11 2026. No macro, syntax, notation, axiom, sorry.
-/
import Derived.Test.YteiefdnhngfojaaGreatDoorRows
import GoSem.ClaimSeven
namespace Go.Proofs.YteiefdnhngfojaaGreatDoor
namespace Rows

/-- THE TIED CARD OF 'steamerlaw26.IsoAsks'. -/
def isoAsksCard : Claim7 := { stood := { row := isoAsksRow, standIns := [], harness := (true, "fc3f8cbd5107e9f701e171d06198c6bdb0724eea470afe046827d144fe5360b5"), looks := false }, kinds := [], alts := [], laidByText := true, laidKinds := [.data, .pinned], laidTests := true, laidLooks := .later }
def IsoAsksCardSaid : Prop := Claim7.holds Tryz.pinned (.plain (OpenSpec.ofChange isoAsksSpec)) isoAsksCard

/-- THE TIED CARD OF 'steamerlaw26.IsoSame'. -/
def isoSameCard : Claim7 := { stood := { row := isoSameRow, standIns := [], harness := (true, "fc3f8cbd5107e9f701e171d06198c6bdb0724eea470afe046827d144fe5360b5"), looks := false }, kinds := [], alts := [], laidByText := true, laidKinds := [.data, .pinned], laidTests := true, laidLooks := .later }
def IsoSameCardSaid : Prop := Claim7.holds Tryz.pinned (.plain (OpenSpec.ofChange isoSameSpec)) isoSameCard

/-- THE TIED CARD OF 'steamerlaw26.IsoSpoilt'. -/
def isoSpoiltCard : Claim7 := { stood := { row := isoSpoiltRow, standIns := [], harness := (true, "fc3f8cbd5107e9f701e171d06198c6bdb0724eea470afe046827d144fe5360b5"), looks := false }, kinds := [], alts := [], laidByText := true, laidKinds := [.data, .pinned], laidTests := true, laidLooks := .later }
def IsoSpoiltCardSaid : Prop := Claim7.holds Tryz.pinned (.plain (OpenSpec.ofChange isoSpoiltSpec)) isoSpoiltCard

/-- THE TIED CARD OF 'steamerlaw26.IsoParts'. -/
def isoPartsCard : Claim7 := { stood := { row := isoPartsRow, standIns := [], harness := (true, "fc3f8cbd5107e9f701e171d06198c6bdb0724eea470afe046827d144fe5360b5"), looks := false }, kinds := [], alts := [], laidByText := true, laidKinds := [.data, .pinned], laidTests := true, laidLooks := .later }
def IsoPartsCardSaid : Prop := Claim7.holds Tryz.pinned (.plain (OpenSpec.ofChange isoPartsSpec)) isoPartsCard

/-- THE TIED CARD OF 'steamerlaw26.IsoLinks'. -/
def isoLinksCard : Claim7 := { stood := { row := isoLinksRow, standIns := [], harness := (true, "fc3f8cbd5107e9f701e171d06198c6bdb0724eea470afe046827d144fe5360b5"), looks := false }, kinds := [], alts := [], laidByText := true, laidKinds := [.data, .pinned], laidTests := true, laidLooks := .later }
def IsoLinksCardSaid : Prop := Claim7.holds Tryz.pinned (.plain (OpenSpec.ofChange isoLinksSpec)) isoLinksCard

/-- THE TIED CARD OF 'steamerlaw24.PlanAsks'. -/
def planAsksCard : Claim7 := { stood := { row := planAsksRow, standIns := [], harness := (true, "fc3f8cbd5107e9f701e171d06198c6bdb0724eea470afe046827d144fe5360b5"), looks := false }, kinds := [], alts := [], laidByText := true, laidKinds := [.data, .pinned], laidTests := true, laidLooks := .later }
def PlanAsksCardSaid : Prop := Claim7.holds Tryz.pinned (.plain (OpenSpec.ofChange planAsksSpec)) planAsksCard

/-- THE TIED CARD OF 'steamerlaw24.PlanOrder'. -/
def planOrderCard : Claim7 := { stood := { row := planOrderRow, standIns := [], harness := (true, "fc3f8cbd5107e9f701e171d06198c6bdb0724eea470afe046827d144fe5360b5"), looks := false }, kinds := [], alts := [], laidByText := true, laidKinds := [.data, .pinned], laidTests := true, laidLooks := .later }
def PlanOrderCardSaid : Prop := Claim7.holds Tryz.pinned (.plain (OpenSpec.ofChange planOrderSpec)) planOrderCard

/-- THE TIED CARD OF 'steamerlaw24.PlanCounts'. -/
def planCountsCard : Claim7 := { stood := { row := planCountsRow, standIns := [], harness := (true, "fc3f8cbd5107e9f701e171d06198c6bdb0724eea470afe046827d144fe5360b5"), looks := false }, kinds := [], alts := [], laidByText := true, laidKinds := [.data, .pinned], laidTests := true, laidLooks := .later }
def PlanCountsCardSaid : Prop := Claim7.holds Tryz.pinned (.plain (OpenSpec.ofChange planCountsSpec)) planCountsCard

/-- THE TIED CARD OF 'steamerlaw24.PlanThere'. -/
def planThereCard : Claim7 := { stood := { row := planThereRow, standIns := [], harness := (true, "fc3f8cbd5107e9f701e171d06198c6bdb0724eea470afe046827d144fe5360b5"), looks := false }, kinds := [], alts := [], laidByText := true, laidKinds := [.data, .pinned], laidTests := true, laidLooks := .later }
def PlanThereCardSaid : Prop := Claim7.holds Tryz.pinned (.plain (OpenSpec.ofChange planThereSpec)) planThereCard

/-- THE TIED CARD OF 'steamerlaw6.TreeAsks'. -/
def treeAsksCard : Claim7 := { stood := { row := treeAsksRow, standIns := [], harness := (true, "fc3f8cbd5107e9f701e171d06198c6bdb0724eea470afe046827d144fe5360b5"), looks := false }, kinds := [], alts := [], laidByText := true, laidKinds := [.data, .pinned], laidTests := true, laidLooks := .later }
def TreeAsksCardSaid : Prop := Claim7.holds Tryz.pinned (.plain (OpenSpec.ofChange treeAsksSpec)) treeAsksCard

/-- THE TIED CARD OF 'steamerlaw6.TreeNorms'. -/
def treeNormsCard : Claim7 := { stood := { row := treeNormsRow, standIns := [], harness := (true, "fc3f8cbd5107e9f701e171d06198c6bdb0724eea470afe046827d144fe5360b5"), looks := false }, kinds := [], alts := [], laidByText := true, laidKinds := [.data, .pinned], laidTests := true, laidLooks := .later }
def TreeNormsCardSaid : Prop := Claim7.holds Tryz.pinned (.plain (OpenSpec.ofChange treeNormsSpec)) treeNormsCard

/-- THE TIED CARD OF 'steamerlaw6.TreeParts'. -/
def treePartsCard : Claim7 := { stood := { row := treePartsRow, standIns := [], harness := (true, "fc3f8cbd5107e9f701e171d06198c6bdb0724eea470afe046827d144fe5360b5"), looks := false }, kinds := [], alts := [], laidByText := true, laidKinds := [.data, .pinned], laidTests := true, laidLooks := .later }
def TreePartsCardSaid : Prop := Claim7.holds Tryz.pinned (.plain (OpenSpec.ofChange treePartsSpec)) treePartsCard

/-- THE TIED CARD OF 'steamerlaw6.TreeClasses'. -/
def treeClassesCard : Claim7 := { stood := { row := treeClassesRow, standIns := [], harness := (true, "fc3f8cbd5107e9f701e171d06198c6bdb0724eea470afe046827d144fe5360b5"), looks := false }, kinds := [], alts := [], laidByText := true, laidKinds := [.data, .pinned], laidTests := true, laidLooks := .later }
def TreeClassesCardSaid : Prop := Claim7.holds Tryz.pinned (.plain (OpenSpec.ofChange treeClassesSpec)) treeClassesCard

/-- THE TIED CARD OF 'steamerlaw6.TreeKids'. -/
def treeKidsCard : Claim7 := { stood := { row := treeKidsRow, standIns := [], harness := (true, "fc3f8cbd5107e9f701e171d06198c6bdb0724eea470afe046827d144fe5360b5"), looks := false }, kinds := [], alts := [], laidByText := true, laidKinds := [.data, .pinned], laidTests := true, laidLooks := .later }
def TreeKidsCardSaid : Prop := Claim7.holds Tryz.pinned (.plain (OpenSpec.ofChange treeKidsSpec)) treeKidsCard

/-- THE TIED CARD OF 'steamerlaw6.TreeSpoilt'. -/
def treeSpoiltCard : Claim7 := { stood := { row := treeSpoiltRow, standIns := [], harness := (true, "fc3f8cbd5107e9f701e171d06198c6bdb0724eea470afe046827d144fe5360b5"), looks := false }, kinds := [], alts := [], laidByText := true, laidKinds := [.data, .pinned], laidTests := true, laidLooks := .later }
def TreeSpoiltCardSaid : Prop := Claim7.holds Tryz.pinned (.plain (OpenSpec.ofChange treeSpoiltSpec)) treeSpoiltCard

/-- THE SECOND FORM's CARD OF 'steamerlaw26.IsoAsks'. -/
def isoAsksUptoCard : Claim7 := { stood := { row := isoAsksUptoRow, standIns := [], harness := (true, "fc3f8cbd5107e9f701e171d06198c6bdb0724eea470afe046827d144fe5360b5"), looks := false }, kinds := [], alts := [], laidByText := true, laidKinds := [.data, .pinned], laidTests := true, laidLooks := .later }
def IsoAsksUptoCardSaid : Prop := Claim7.holds Tryz.pinned (.plain (OpenSpec.upto isoAsksSpec)) isoAsksUptoCard

/-- THE SECOND FORM's CARD OF 'steamerlaw26.IsoSame'. -/
def isoSameUptoCard : Claim7 := { stood := { row := isoSameUptoRow, standIns := [], harness := (true, "fc3f8cbd5107e9f701e171d06198c6bdb0724eea470afe046827d144fe5360b5"), looks := false }, kinds := [], alts := [], laidByText := true, laidKinds := [.data, .pinned], laidTests := true, laidLooks := .later }
def IsoSameUptoCardSaid : Prop := Claim7.holds Tryz.pinned (.plain (OpenSpec.upto isoSameSpec)) isoSameUptoCard

/-- THE SECOND FORM's CARD OF 'steamerlaw26.IsoSpoilt'. -/
def isoSpoiltUptoCard : Claim7 := { stood := { row := isoSpoiltUptoRow, standIns := [], harness := (true, "fc3f8cbd5107e9f701e171d06198c6bdb0724eea470afe046827d144fe5360b5"), looks := false }, kinds := [], alts := [], laidByText := true, laidKinds := [.data, .pinned], laidTests := true, laidLooks := .later }
def IsoSpoiltUptoCardSaid : Prop := Claim7.holds Tryz.pinned (.plain (OpenSpec.upto isoSpoiltSpec)) isoSpoiltUptoCard

/-- THE SECOND FORM's CARD OF 'steamerlaw26.IsoParts'. -/
def isoPartsUptoCard : Claim7 := { stood := { row := isoPartsUptoRow, standIns := [], harness := (true, "fc3f8cbd5107e9f701e171d06198c6bdb0724eea470afe046827d144fe5360b5"), looks := false }, kinds := [], alts := [], laidByText := true, laidKinds := [.data, .pinned], laidTests := true, laidLooks := .later }
def IsoPartsUptoCardSaid : Prop := Claim7.holds Tryz.pinned (.plain (OpenSpec.upto isoPartsSpec)) isoPartsUptoCard

/-- THE SECOND FORM's CARD OF 'steamerlaw26.IsoLinks'. -/
def isoLinksUptoCard : Claim7 := { stood := { row := isoLinksUptoRow, standIns := [], harness := (true, "fc3f8cbd5107e9f701e171d06198c6bdb0724eea470afe046827d144fe5360b5"), looks := false }, kinds := [], alts := [], laidByText := true, laidKinds := [.data, .pinned], laidTests := true, laidLooks := .later }
def IsoLinksUptoCardSaid : Prop := Claim7.holds Tryz.pinned (.plain (OpenSpec.upto isoLinksSpec)) isoLinksUptoCard

/-- THE SECOND FORM's CARD OF 'steamerlaw24.PlanAsks'. -/
def planAsksUptoCard : Claim7 := { stood := { row := planAsksUptoRow, standIns := [], harness := (true, "fc3f8cbd5107e9f701e171d06198c6bdb0724eea470afe046827d144fe5360b5"), looks := false }, kinds := [], alts := [], laidByText := true, laidKinds := [.data, .pinned], laidTests := true, laidLooks := .later }
def PlanAsksUptoCardSaid : Prop := Claim7.holds Tryz.pinned (.plain (OpenSpec.upto planAsksSpec)) planAsksUptoCard

/-- THE SECOND FORM's CARD OF 'steamerlaw24.PlanOrder'. -/
def planOrderUptoCard : Claim7 := { stood := { row := planOrderUptoRow, standIns := [], harness := (true, "fc3f8cbd5107e9f701e171d06198c6bdb0724eea470afe046827d144fe5360b5"), looks := false }, kinds := [], alts := [], laidByText := true, laidKinds := [.data, .pinned], laidTests := true, laidLooks := .later }
def PlanOrderUptoCardSaid : Prop := Claim7.holds Tryz.pinned (.plain (OpenSpec.upto planOrderSpec)) planOrderUptoCard

/-- THE SECOND FORM's CARD OF 'steamerlaw24.PlanCounts'. -/
def planCountsUptoCard : Claim7 := { stood := { row := planCountsUptoRow, standIns := [], harness := (true, "fc3f8cbd5107e9f701e171d06198c6bdb0724eea470afe046827d144fe5360b5"), looks := false }, kinds := [], alts := [], laidByText := true, laidKinds := [.data, .pinned], laidTests := true, laidLooks := .later }
def PlanCountsUptoCardSaid : Prop := Claim7.holds Tryz.pinned (.plain (OpenSpec.upto planCountsSpec)) planCountsUptoCard

/-- THE SECOND FORM's CARD OF 'steamerlaw24.PlanThere'. -/
def planThereUptoCard : Claim7 := { stood := { row := planThereUptoRow, standIns := [], harness := (true, "fc3f8cbd5107e9f701e171d06198c6bdb0724eea470afe046827d144fe5360b5"), looks := false }, kinds := [], alts := [], laidByText := true, laidKinds := [.data, .pinned], laidTests := true, laidLooks := .later }
def PlanThereUptoCardSaid : Prop := Claim7.holds Tryz.pinned (.plain (OpenSpec.upto planThereSpec)) planThereUptoCard

/-- THE SECOND FORM's CARD OF 'steamerlaw6.TreeAsks'. -/
def treeAsksUptoCard : Claim7 := { stood := { row := treeAsksUptoRow, standIns := [], harness := (true, "fc3f8cbd5107e9f701e171d06198c6bdb0724eea470afe046827d144fe5360b5"), looks := false }, kinds := [], alts := [], laidByText := true, laidKinds := [.data, .pinned], laidTests := true, laidLooks := .later }
def TreeAsksUptoCardSaid : Prop := Claim7.holds Tryz.pinned (.plain (OpenSpec.upto treeAsksSpec)) treeAsksUptoCard

/-- THE SECOND FORM's CARD OF 'steamerlaw6.TreeNorms'. -/
def treeNormsUptoCard : Claim7 := { stood := { row := treeNormsUptoRow, standIns := [], harness := (true, "fc3f8cbd5107e9f701e171d06198c6bdb0724eea470afe046827d144fe5360b5"), looks := false }, kinds := [], alts := [], laidByText := true, laidKinds := [.data, .pinned], laidTests := true, laidLooks := .later }
def TreeNormsUptoCardSaid : Prop := Claim7.holds Tryz.pinned (.plain (OpenSpec.upto treeNormsSpec)) treeNormsUptoCard

/-- THE SECOND FORM's CARD OF 'steamerlaw6.TreeParts'. -/
def treePartsUptoCard : Claim7 := { stood := { row := treePartsUptoRow, standIns := [], harness := (true, "fc3f8cbd5107e9f701e171d06198c6bdb0724eea470afe046827d144fe5360b5"), looks := false }, kinds := [], alts := [], laidByText := true, laidKinds := [.data, .pinned], laidTests := true, laidLooks := .later }
def TreePartsUptoCardSaid : Prop := Claim7.holds Tryz.pinned (.plain (OpenSpec.upto treePartsSpec)) treePartsUptoCard

/-- THE SECOND FORM's CARD OF 'steamerlaw6.TreeClasses'. -/
def treeClassesUptoCard : Claim7 := { stood := { row := treeClassesUptoRow, standIns := [], harness := (true, "fc3f8cbd5107e9f701e171d06198c6bdb0724eea470afe046827d144fe5360b5"), looks := false }, kinds := [], alts := [], laidByText := true, laidKinds := [.data, .pinned], laidTests := true, laidLooks := .later }
def TreeClassesUptoCardSaid : Prop := Claim7.holds Tryz.pinned (.plain (OpenSpec.upto treeClassesSpec)) treeClassesUptoCard

/-- THE SECOND FORM's CARD OF 'steamerlaw6.TreeKids'. -/
def treeKidsUptoCard : Claim7 := { stood := { row := treeKidsUptoRow, standIns := [], harness := (true, "fc3f8cbd5107e9f701e171d06198c6bdb0724eea470afe046827d144fe5360b5"), looks := false }, kinds := [], alts := [], laidByText := true, laidKinds := [.data, .pinned], laidTests := true, laidLooks := .later }
def TreeKidsUptoCardSaid : Prop := Claim7.holds Tryz.pinned (.plain (OpenSpec.upto treeKidsSpec)) treeKidsUptoCard

/-- THE SECOND FORM's CARD OF 'steamerlaw6.TreeSpoilt'. -/
def treeSpoiltUptoCard : Claim7 := { stood := { row := treeSpoiltUptoRow, standIns := [], harness := (true, "fc3f8cbd5107e9f701e171d06198c6bdb0724eea470afe046827d144fe5360b5"), looks := false }, kinds := [], alts := [], laidByText := true, laidKinds := [.data, .pinned], laidTests := true, laidLooks := .later }
def TreeSpoiltUptoCardSaid : Prop := Claim7.holds Tryz.pinned (.plain (OpenSpec.upto treeSpoiltSpec)) treeSpoiltUptoCard
end Rows
end Go.Proofs.YteiefdnhngfojaaGreatDoor
