/-
  NARROWER THAN 'FOR EVERY INPUT', by the rows' own cells (each row's printed sentence says how): IsoAsks: laid · IsoSame: laid · IsoSpoilt: laid · IsoParts: laid · IsoLinks: laid · PlanAsks: laid · PlanOrder: laid · PlanCounts: laid · PlanThere: laid · TreeAsks: laid · TreeNorms: laid · TreeParts: laid · TreeClasses: laid · TreeKids: laid · TreeSpoilt: laid.
  DERIVED. THE GIVEN ROWS OF THIS SEAT. 15 by the template 'for every input the law returns true; each argument reads behind the call as it read before'; 0 by the template 'total and deterministic' (their statements: YteiefdnhngfojaaGreatDoorTotals.lean).
  GIVEN WITH THE SEED: the statements are not yours to turn. If you find one false, say at which input.
  Laid BY PROGRAM, IN A SANDBOX (cutbox-rows.mjs): the forced cells as the released guide's own fill.sh prints them over the translation 4f00aff4f26df359… (all of the seat's roots in one cut). By AI agents, Wed Nov 11 2026. No macro, syntax, notation, axiom, sorry.
-/
import Derived.Test.YteiefdnhngfojaaGreatDoorChecked
import GoSem.PinnedTables
import GoSem.Claim
import GoSem.ClaimJoined
import GoSem.ClaimMapViews
import Derived.JoinedTies
import Derived.KernelRfl
namespace Go.Proofs.YteiefdnhngfojaaGreatDoor
/- THE CELL 'sum', in the pinned program and in every row, IS THE sha256 OF THE DUMP (.gsa) THAT YteiefdnhngfojaaGreatDoorProg.lean LOADS. Nothing in Lean hashes anything: it is a label: what it is worth is what the hold of that sum in a sandbox is worth. -/
noncomputable def Tryz.pinned : Pinned := { name := "yteiefdnhngfojaagreatdoor", sum := "4f00aff4f26df359d7b152f29138a186dcc46ddf4d793a3db964b1dcca9e6e6f", checked := Tryz.checked }
namespace Rows
def none {H : Type} : Left H := { results := [], args := [] }

/- WHAT THE LISTED PACKAGE-LEVEL VARIABLES READ AS WHEN THE CALL BEGINS. Each datum BY PROGRAM (the guide's laid-datum.mjs) off the statement by which the dump's own 'gosem.cut.vars' lays the variable. In a bare row this is a premise. The card (YteiefdnhngfojaaGreatDoorCards.lean) ties it to the program's text. -/
def laid_unicode_utf8_acceptRanges {H : Type} : DataW H := .agg [.agg [.lit (.int .u8 128), .lit (.int .u8 191)], .agg [.lit (.int .u8 160), .lit (.int .u8 191)], .agg [.lit (.int .u8 128), .lit (.int .u8 159)], .agg [.lit (.int .u8 144), .lit (.int .u8 191)], .agg [.lit (.int .u8 128), .lit (.int .u8 143)], .agg [.lit (.int .u8 0), .lit (.int .u8 0)], .agg [.lit (.int .u8 0), .lit (.int .u8 0)], .agg [.lit (.int .u8 0), .lit (.int .u8 0)], .agg [.lit (.int .u8 0), .lit (.int .u8 0)], .agg [.lit (.int .u8 0), .lit (.int .u8 0)], .agg [.lit (.int .u8 0), .lit (.int .u8 0)], .agg [.lit (.int .u8 0), .lit (.int .u8 0)], .agg [.lit (.int .u8 0), .lit (.int .u8 0)], .agg [.lit (.int .u8 0), .lit (.int .u8 0)], .agg [.lit (.int .u8 0), .lit (.int .u8 0)], .agg [.lit (.int .u8 0), .lit (.int .u8 0)]]
/-- One of Go's own tables, pinned by name: the form's constant. -/
def laid_unicode_utf8_first : DataW Unit := Go.Pinned.utf8First

/-- 'steamerlaw26.IsoAsks': WHATEVER THE INPUT: true; the input reads as it did. -/
def isoAsksSpec : ChangeSpec := { name := "isoAsks", fn := fun _ => fun
  | [d1, d2] => { results := [.lit (.bool true)], args := [d1, d2] }
  | _ => none }
def isoAsksRow : OpenClaim := { program := "yteiefdnhngfojaagreatdoor", sum := "4f00aff4f26df359d7b152f29138a186dcc46ddf4d793a3db964b1dcca9e6e6f", func := "steamer/steamerlaw26.IsoAsks", spec := "isoAsks", inPlace := ["internal/bytealg.IndexByteString", "internal/bytealg.IndexString", "internal/bytealg.CountString", "internal/abi.NoEscape", "internal/bytealg.MakeNoZero"], unfollowed := true, recurses := true, named := ["internal/bytealg.MaxLen", "unicode/utf8.first", "unicode/utf8.acceptRanges"], apart := false, laid := [("unicode/utf8.acceptRanges", laid_unicode_utf8_acceptRanges), ("unicode/utf8.first", laid_unicode_utf8_first)] }
def IsoAsksSaid : Prop := isoAsksRow.holds Tryz.pinned (OpenSpec.ofChange isoAsksSpec)

/-- ITS FALSE NEIGHBOUR: 'it returns false'. Refute it at one input. -/
def isoAsksWrong : ChangeSpec := { name := "isoAsks", fn := fun _ => fun
  | [d1, d2] => { results := [.lit (.bool false)], args := [d1, d2] }
  | _ => none }
def IsoAsksWrongFalsely : Prop := isoAsksRow.holds Tryz.pinned (OpenSpec.ofChange isoAsksWrong)

/-- 'steamerlaw26.IsoSame': WHATEVER THE INPUT: true; the input reads as it did. -/
def isoSameSpec : ChangeSpec := { name := "isoSame", fn := fun _ => fun
  | [d1, d2, d3] => { results := [.lit (.bool true)], args := [d1, d2, d3] }
  | _ => none }
def isoSameRow : OpenClaim := { program := "yteiefdnhngfojaagreatdoor", sum := "4f00aff4f26df359d7b152f29138a186dcc46ddf4d793a3db964b1dcca9e6e6f", func := "steamer/steamerlaw26.IsoSame", spec := "isoSame", inPlace := ["internal/bytealg.IndexByteString", "internal/bytealg.IndexString", "internal/bytealg.CountString", "internal/abi.NoEscape", "internal/bytealg.MakeNoZero"], unfollowed := true, recurses := true, named := ["internal/bytealg.MaxLen", "unicode/utf8.first", "unicode/utf8.acceptRanges"], apart := false, laid := [("unicode/utf8.acceptRanges", laid_unicode_utf8_acceptRanges), ("unicode/utf8.first", laid_unicode_utf8_first)] }
def IsoSameSaid : Prop := isoSameRow.holds Tryz.pinned (OpenSpec.ofChange isoSameSpec)

/-- ITS FALSE NEIGHBOUR: 'it returns false'. Refute it at one input. -/
def isoSameWrong : ChangeSpec := { name := "isoSame", fn := fun _ => fun
  | [d1, d2, d3] => { results := [.lit (.bool false)], args := [d1, d2, d3] }
  | _ => none }
def IsoSameWrongFalsely : Prop := isoSameRow.holds Tryz.pinned (OpenSpec.ofChange isoSameWrong)

/-- 'steamerlaw26.IsoSpoilt': WHATEVER THE INPUT: true; the input reads as it did. -/
def isoSpoiltSpec : ChangeSpec := { name := "isoSpoilt", fn := fun _ => fun
  | [d1, d2, d3] => { results := [.lit (.bool true)], args := [d1, d2, d3] }
  | _ => none }
def isoSpoiltRow : OpenClaim := { program := "yteiefdnhngfojaagreatdoor", sum := "4f00aff4f26df359d7b152f29138a186dcc46ddf4d793a3db964b1dcca9e6e6f", func := "steamer/steamerlaw26.IsoSpoilt", spec := "isoSpoilt", inPlace := ["internal/bytealg.IndexByteString", "internal/bytealg.IndexString", "internal/bytealg.CountString", "internal/abi.NoEscape", "internal/bytealg.MakeNoZero"], unfollowed := true, recurses := true, named := ["internal/bytealg.MaxLen", "unicode/utf8.first", "unicode/utf8.acceptRanges"], apart := false, laid := [("unicode/utf8.acceptRanges", laid_unicode_utf8_acceptRanges), ("unicode/utf8.first", laid_unicode_utf8_first)] }
def IsoSpoiltSaid : Prop := isoSpoiltRow.holds Tryz.pinned (OpenSpec.ofChange isoSpoiltSpec)

/-- ITS FALSE NEIGHBOUR: 'it returns false'. Refute it at one input. -/
def isoSpoiltWrong : ChangeSpec := { name := "isoSpoilt", fn := fun _ => fun
  | [d1, d2, d3] => { results := [.lit (.bool false)], args := [d1, d2, d3] }
  | _ => none }
def IsoSpoiltWrongFalsely : Prop := isoSpoiltRow.holds Tryz.pinned (OpenSpec.ofChange isoSpoiltWrong)

/-- 'steamerlaw26.IsoParts': WHATEVER THE INPUT: true; the input reads as it did. -/
def isoPartsSpec : ChangeSpec := { name := "isoParts", fn := fun _ => fun
  | [d1, d2] => { results := [.lit (.bool true)], args := [d1, d2] }
  | _ => none }
def isoPartsRow : OpenClaim := { program := "yteiefdnhngfojaagreatdoor", sum := "4f00aff4f26df359d7b152f29138a186dcc46ddf4d793a3db964b1dcca9e6e6f", func := "steamer/steamerlaw26.IsoParts", spec := "isoParts", inPlace := ["internal/bytealg.IndexByteString", "internal/bytealg.IndexString", "internal/bytealg.CountString", "internal/abi.NoEscape", "internal/bytealg.MakeNoZero"], unfollowed := true, recurses := true, named := ["internal/bytealg.MaxLen", "unicode/utf8.first", "unicode/utf8.acceptRanges"], apart := false, laid := [("unicode/utf8.acceptRanges", laid_unicode_utf8_acceptRanges), ("unicode/utf8.first", laid_unicode_utf8_first)] }
def IsoPartsSaid : Prop := isoPartsRow.holds Tryz.pinned (OpenSpec.ofChange isoPartsSpec)

/-- ITS FALSE NEIGHBOUR: 'it returns false'. Refute it at one input. -/
def isoPartsWrong : ChangeSpec := { name := "isoParts", fn := fun _ => fun
  | [d1, d2] => { results := [.lit (.bool false)], args := [d1, d2] }
  | _ => none }
def IsoPartsWrongFalsely : Prop := isoPartsRow.holds Tryz.pinned (OpenSpec.ofChange isoPartsWrong)

/-- 'steamerlaw26.IsoLinks': WHATEVER THE INPUT: true; the input reads as it did. -/
def isoLinksSpec : ChangeSpec := { name := "isoLinks", fn := fun _ => fun
  | [d1, d2, d3] => { results := [.lit (.bool true)], args := [d1, d2, d3] }
  | _ => none }
def isoLinksRow : OpenClaim := { program := "yteiefdnhngfojaagreatdoor", sum := "4f00aff4f26df359d7b152f29138a186dcc46ddf4d793a3db964b1dcca9e6e6f", func := "steamer/steamerlaw26.IsoLinks", spec := "isoLinks", inPlace := ["internal/bytealg.IndexByteString", "internal/bytealg.IndexString", "internal/bytealg.CountString", "internal/abi.NoEscape", "internal/bytealg.MakeNoZero"], unfollowed := true, recurses := true, named := ["internal/bytealg.MaxLen", "unicode/utf8.first", "unicode/utf8.acceptRanges"], apart := false, laid := [("unicode/utf8.acceptRanges", laid_unicode_utf8_acceptRanges), ("unicode/utf8.first", laid_unicode_utf8_first)] }
def IsoLinksSaid : Prop := isoLinksRow.holds Tryz.pinned (OpenSpec.ofChange isoLinksSpec)

/-- ITS FALSE NEIGHBOUR: 'it returns false'. Refute it at one input. -/
def isoLinksWrong : ChangeSpec := { name := "isoLinks", fn := fun _ => fun
  | [d1, d2, d3] => { results := [.lit (.bool false)], args := [d1, d2, d3] }
  | _ => none }
def IsoLinksWrongFalsely : Prop := isoLinksRow.holds Tryz.pinned (OpenSpec.ofChange isoLinksWrong)

/-- 'steamerlaw24.PlanAsks': WHATEVER THE INPUT: true; the input reads as it did. -/
def planAsksSpec : ChangeSpec := { name := "planAsks", fn := fun _ => fun
  | [d1, d2] => { results := [.lit (.bool true)], args := [d1, d2] }
  | _ => none }
def planAsksRow : OpenClaim := { program := "yteiefdnhngfojaagreatdoor", sum := "4f00aff4f26df359d7b152f29138a186dcc46ddf4d793a3db964b1dcca9e6e6f", func := "steamer/steamerlaw24.PlanAsks", spec := "planAsks", inPlace := ["internal/bytealg.IndexByteString", "internal/bytealg.IndexString", "internal/bytealg.CountString", "internal/abi.NoEscape", "internal/bytealg.MakeNoZero"], unfollowed := true, recurses := true, named := ["internal/bytealg.MaxLen", "unicode/utf8.first", "unicode/utf8.acceptRanges"], apart := false, laid := [("unicode/utf8.acceptRanges", laid_unicode_utf8_acceptRanges), ("unicode/utf8.first", laid_unicode_utf8_first)] }
def PlanAsksSaid : Prop := planAsksRow.holds Tryz.pinned (OpenSpec.ofChange planAsksSpec)

/-- ITS FALSE NEIGHBOUR: 'it returns false'. Refute it at one input. -/
def planAsksWrong : ChangeSpec := { name := "planAsks", fn := fun _ => fun
  | [d1, d2] => { results := [.lit (.bool false)], args := [d1, d2] }
  | _ => none }
def PlanAsksWrongFalsely : Prop := planAsksRow.holds Tryz.pinned (OpenSpec.ofChange planAsksWrong)

/-- 'steamerlaw24.PlanOrder': WHATEVER THE INPUT: true; the input reads as it did. -/
def planOrderSpec : ChangeSpec := { name := "planOrder", fn := fun _ => fun
  | [d] => { results := [.lit (.bool true)], args := [d] }
  | _ => none }
def planOrderRow : OpenClaim := { program := "yteiefdnhngfojaagreatdoor", sum := "4f00aff4f26df359d7b152f29138a186dcc46ddf4d793a3db964b1dcca9e6e6f", func := "steamer/steamerlaw24.PlanOrder", spec := "planOrder", inPlace := ["internal/bytealg.IndexByteString", "internal/bytealg.IndexString", "internal/bytealg.CountString", "internal/abi.NoEscape", "internal/bytealg.MakeNoZero"], unfollowed := true, recurses := true, named := ["internal/bytealg.MaxLen", "unicode/utf8.first", "unicode/utf8.acceptRanges"], apart := false, laid := [("unicode/utf8.acceptRanges", laid_unicode_utf8_acceptRanges), ("unicode/utf8.first", laid_unicode_utf8_first)] }
def PlanOrderSaid : Prop := planOrderRow.holds Tryz.pinned (OpenSpec.ofChange planOrderSpec)

/-- ITS FALSE NEIGHBOUR: 'it returns false'. Refute it at one input. -/
def planOrderWrong : ChangeSpec := { name := "planOrder", fn := fun _ => fun
  | [d] => { results := [.lit (.bool false)], args := [d] }
  | _ => none }
def PlanOrderWrongFalsely : Prop := planOrderRow.holds Tryz.pinned (OpenSpec.ofChange planOrderWrong)

/-- 'steamerlaw24.PlanCounts': WHATEVER THE INPUT: true; the input reads as it did. -/
def planCountsSpec : ChangeSpec := { name := "planCounts", fn := fun _ => fun
  | [d] => { results := [.lit (.bool true)], args := [d] }
  | _ => none }
def planCountsRow : OpenClaim := { program := "yteiefdnhngfojaagreatdoor", sum := "4f00aff4f26df359d7b152f29138a186dcc46ddf4d793a3db964b1dcca9e6e6f", func := "steamer/steamerlaw24.PlanCounts", spec := "planCounts", inPlace := ["internal/bytealg.IndexByteString", "internal/bytealg.IndexString", "internal/bytealg.CountString", "internal/abi.NoEscape", "internal/bytealg.MakeNoZero"], unfollowed := true, recurses := true, named := ["internal/bytealg.MaxLen", "unicode/utf8.first", "unicode/utf8.acceptRanges"], apart := false, laid := [("unicode/utf8.acceptRanges", laid_unicode_utf8_acceptRanges), ("unicode/utf8.first", laid_unicode_utf8_first)] }
def PlanCountsSaid : Prop := planCountsRow.holds Tryz.pinned (OpenSpec.ofChange planCountsSpec)

/-- ITS FALSE NEIGHBOUR: 'it returns false'. Refute it at one input. -/
def planCountsWrong : ChangeSpec := { name := "planCounts", fn := fun _ => fun
  | [d] => { results := [.lit (.bool false)], args := [d] }
  | _ => none }
def PlanCountsWrongFalsely : Prop := planCountsRow.holds Tryz.pinned (OpenSpec.ofChange planCountsWrong)

/-- 'steamerlaw24.PlanThere': WHATEVER THE INPUT: true; the input reads as it did. -/
def planThereSpec : ChangeSpec := { name := "planThere", fn := fun _ => fun
  | [d1, d2] => { results := [.lit (.bool true)], args := [d1, d2] }
  | _ => none }
def planThereRow : OpenClaim := { program := "yteiefdnhngfojaagreatdoor", sum := "4f00aff4f26df359d7b152f29138a186dcc46ddf4d793a3db964b1dcca9e6e6f", func := "steamer/steamerlaw24.PlanThere", spec := "planThere", inPlace := ["internal/bytealg.IndexByteString", "internal/bytealg.IndexString", "internal/bytealg.CountString", "internal/abi.NoEscape", "internal/bytealg.MakeNoZero"], unfollowed := true, recurses := true, named := ["internal/bytealg.MaxLen", "unicode/utf8.first", "unicode/utf8.acceptRanges"], apart := false, laid := [("unicode/utf8.acceptRanges", laid_unicode_utf8_acceptRanges), ("unicode/utf8.first", laid_unicode_utf8_first)] }
def PlanThereSaid : Prop := planThereRow.holds Tryz.pinned (OpenSpec.ofChange planThereSpec)

/-- ITS FALSE NEIGHBOUR: 'it returns false'. Refute it at one input. -/
def planThereWrong : ChangeSpec := { name := "planThere", fn := fun _ => fun
  | [d1, d2] => { results := [.lit (.bool false)], args := [d1, d2] }
  | _ => none }
def PlanThereWrongFalsely : Prop := planThereRow.holds Tryz.pinned (OpenSpec.ofChange planThereWrong)

/-- 'steamerlaw6.TreeAsks': WHATEVER THE INPUT: true; the input reads as it did. -/
def treeAsksSpec : ChangeSpec := { name := "treeAsks", fn := fun _ => fun
  | [d1, d2, d3, d4] => { results := [.lit (.bool true)], args := [d1, d2, d3, d4] }
  | _ => none }
def treeAsksRow : OpenClaim := { program := "yteiefdnhngfojaagreatdoor", sum := "4f00aff4f26df359d7b152f29138a186dcc46ddf4d793a3db964b1dcca9e6e6f", func := "steamer/steamerlaw6.TreeAsks", spec := "treeAsks", inPlace := ["internal/bytealg.CountString", "internal/bytealg.IndexByteString", "internal/bytealg.IndexString", "internal/abi.NoEscape", "internal/bytealg.MakeNoZero"], unfollowed := true, recurses := true, named := ["unicode/utf8.first", "unicode/utf8.acceptRanges", "internal/bytealg.MaxLen"], apart := false, laid := [("unicode/utf8.acceptRanges", laid_unicode_utf8_acceptRanges), ("unicode/utf8.first", laid_unicode_utf8_first)] }
def TreeAsksSaid : Prop := treeAsksRow.holds Tryz.pinned (OpenSpec.ofChange treeAsksSpec)

/-- ITS FALSE NEIGHBOUR: 'it returns false'. Refute it at one input. -/
def treeAsksWrong : ChangeSpec := { name := "treeAsks", fn := fun _ => fun
  | [d1, d2, d3, d4] => { results := [.lit (.bool false)], args := [d1, d2, d3, d4] }
  | _ => none }
def TreeAsksWrongFalsely : Prop := treeAsksRow.holds Tryz.pinned (OpenSpec.ofChange treeAsksWrong)

/-- 'steamerlaw6.TreeNorms': WHATEVER THE INPUT: true; the input reads as it did. -/
def treeNormsSpec : ChangeSpec := { name := "treeNorms", fn := fun _ => fun
  | [d] => { results := [.lit (.bool true)], args := [d] }
  | _ => none }
def treeNormsRow : OpenClaim := { program := "yteiefdnhngfojaagreatdoor", sum := "4f00aff4f26df359d7b152f29138a186dcc46ddf4d793a3db964b1dcca9e6e6f", func := "steamer/steamerlaw6.TreeNorms", spec := "treeNorms", inPlace := ["internal/bytealg.CountString", "internal/bytealg.IndexByteString", "internal/bytealg.IndexString", "internal/abi.NoEscape", "internal/bytealg.MakeNoZero"], unfollowed := true, recurses := true, named := ["unicode/utf8.first", "unicode/utf8.acceptRanges", "internal/bytealg.MaxLen"], apart := false, laid := [("unicode/utf8.acceptRanges", laid_unicode_utf8_acceptRanges), ("unicode/utf8.first", laid_unicode_utf8_first)] }
def TreeNormsSaid : Prop := treeNormsRow.holds Tryz.pinned (OpenSpec.ofChange treeNormsSpec)

/-- ITS FALSE NEIGHBOUR: 'it returns false'. Refute it at one input. -/
def treeNormsWrong : ChangeSpec := { name := "treeNorms", fn := fun _ => fun
  | [d] => { results := [.lit (.bool false)], args := [d] }
  | _ => none }
def TreeNormsWrongFalsely : Prop := treeNormsRow.holds Tryz.pinned (OpenSpec.ofChange treeNormsWrong)

/-- 'steamerlaw6.TreeParts': WHATEVER THE INPUT: true; the input reads as it did. -/
def treePartsSpec : ChangeSpec := { name := "treeParts", fn := fun _ => fun
  | [d1, d2, d3] => { results := [.lit (.bool true)], args := [d1, d2, d3] }
  | _ => none }
def treePartsRow : OpenClaim := { program := "yteiefdnhngfojaagreatdoor", sum := "4f00aff4f26df359d7b152f29138a186dcc46ddf4d793a3db964b1dcca9e6e6f", func := "steamer/steamerlaw6.TreeParts", spec := "treeParts", inPlace := ["internal/bytealg.IndexByteString", "internal/bytealg.IndexString", "internal/bytealg.CountString", "internal/abi.NoEscape", "internal/bytealg.MakeNoZero"], unfollowed := true, recurses := true, named := ["internal/bytealg.MaxLen", "unicode/utf8.first", "unicode/utf8.acceptRanges"], apart := false, laid := [("unicode/utf8.acceptRanges", laid_unicode_utf8_acceptRanges), ("unicode/utf8.first", laid_unicode_utf8_first)] }
def TreePartsSaid : Prop := treePartsRow.holds Tryz.pinned (OpenSpec.ofChange treePartsSpec)

/-- ITS FALSE NEIGHBOUR: 'it returns false'. Refute it at one input. -/
def treePartsWrong : ChangeSpec := { name := "treeParts", fn := fun _ => fun
  | [d1, d2, d3] => { results := [.lit (.bool false)], args := [d1, d2, d3] }
  | _ => none }
def TreePartsWrongFalsely : Prop := treePartsRow.holds Tryz.pinned (OpenSpec.ofChange treePartsWrong)

/-- 'steamerlaw6.TreeClasses': WHATEVER THE INPUT: true; the input reads as it did. -/
def treeClassesSpec : ChangeSpec := { name := "treeClasses", fn := fun _ => fun
  | [d] => { results := [.lit (.bool true)], args := [d] }
  | _ => none }
def treeClassesRow : OpenClaim := { program := "yteiefdnhngfojaagreatdoor", sum := "4f00aff4f26df359d7b152f29138a186dcc46ddf4d793a3db964b1dcca9e6e6f", func := "steamer/steamerlaw6.TreeClasses", spec := "treeClasses", inPlace := ["internal/bytealg.CountString", "internal/bytealg.IndexByteString", "internal/bytealg.IndexString", "internal/abi.NoEscape", "internal/bytealg.MakeNoZero"], unfollowed := true, recurses := true, named := ["unicode/utf8.first", "unicode/utf8.acceptRanges", "internal/bytealg.MaxLen"], apart := false, laid := [("unicode/utf8.acceptRanges", laid_unicode_utf8_acceptRanges), ("unicode/utf8.first", laid_unicode_utf8_first)] }
def TreeClassesSaid : Prop := treeClassesRow.holds Tryz.pinned (OpenSpec.ofChange treeClassesSpec)

/-- ITS FALSE NEIGHBOUR: 'it returns false'. Refute it at one input. -/
def treeClassesWrong : ChangeSpec := { name := "treeClasses", fn := fun _ => fun
  | [d] => { results := [.lit (.bool false)], args := [d] }
  | _ => none }
def TreeClassesWrongFalsely : Prop := treeClassesRow.holds Tryz.pinned (OpenSpec.ofChange treeClassesWrong)

/-- 'steamerlaw6.TreeKids': WHATEVER THE INPUT: true; the input reads as it did. -/
def treeKidsSpec : ChangeSpec := { name := "treeKids", fn := fun _ => fun
  | [d] => { results := [.lit (.bool true)], args := [d] }
  | _ => none }
def treeKidsRow : OpenClaim := { program := "yteiefdnhngfojaagreatdoor", sum := "4f00aff4f26df359d7b152f29138a186dcc46ddf4d793a3db964b1dcca9e6e6f", func := "steamer/steamerlaw6.TreeKids", spec := "treeKids", inPlace := ["internal/bytealg.CountString", "internal/bytealg.IndexByteString", "internal/bytealg.IndexString", "internal/abi.NoEscape", "internal/bytealg.MakeNoZero"], unfollowed := true, recurses := true, named := ["unicode/utf8.first", "unicode/utf8.acceptRanges", "internal/bytealg.MaxLen"], apart := false, laid := [("unicode/utf8.acceptRanges", laid_unicode_utf8_acceptRanges), ("unicode/utf8.first", laid_unicode_utf8_first)] }
def TreeKidsSaid : Prop := treeKidsRow.holds Tryz.pinned (OpenSpec.ofChange treeKidsSpec)

/-- ITS FALSE NEIGHBOUR: 'it returns false'. Refute it at one input. -/
def treeKidsWrong : ChangeSpec := { name := "treeKids", fn := fun _ => fun
  | [d] => { results := [.lit (.bool false)], args := [d] }
  | _ => none }
def TreeKidsWrongFalsely : Prop := treeKidsRow.holds Tryz.pinned (OpenSpec.ofChange treeKidsWrong)

/-- 'steamerlaw6.TreeSpoilt': WHATEVER THE INPUT: true; the input reads as it did. -/
def treeSpoiltSpec : ChangeSpec := { name := "treeSpoilt", fn := fun _ => fun
  | [d1, d2, d3] => { results := [.lit (.bool true)], args := [d1, d2, d3] }
  | _ => none }
def treeSpoiltRow : OpenClaim := { program := "yteiefdnhngfojaagreatdoor", sum := "4f00aff4f26df359d7b152f29138a186dcc46ddf4d793a3db964b1dcca9e6e6f", func := "steamer/steamerlaw6.TreeSpoilt", spec := "treeSpoilt", inPlace := ["internal/bytealg.CountString", "internal/bytealg.IndexByteString", "internal/bytealg.IndexString", "internal/abi.NoEscape", "internal/bytealg.MakeNoZero"], unfollowed := true, recurses := true, named := ["unicode/utf8.first", "unicode/utf8.acceptRanges", "internal/bytealg.MaxLen"], apart := false, laid := [("unicode/utf8.acceptRanges", laid_unicode_utf8_acceptRanges), ("unicode/utf8.first", laid_unicode_utf8_first)] }
def TreeSpoiltSaid : Prop := treeSpoiltRow.holds Tryz.pinned (OpenSpec.ofChange treeSpoiltSpec)

/-- ITS FALSE NEIGHBOUR: 'it returns false'. Refute it at one input. -/
def treeSpoiltWrong : ChangeSpec := { name := "treeSpoilt", fn := fun _ => fun
  | [d1, d2, d3] => { results := [.lit (.bool false)], args := [d1, d2, d3] }
  | _ => none }
def TreeSpoiltWrongFalsely : Prop := treeSpoiltRow.holds Tryz.pinned (OpenSpec.ofChange treeSpoiltWrong)

/- THE SECOND FORM. 'bulk': how many values and letters a reading holds, each counted each time it is reached (what is shared counts as often as it is met; a slice's spare places count too). A statement '..UptoSaid' is the law's where the arguments, and the package variables that the reading takes, are together of bulk at most 1048576: NARROWER than '..Said'. Prove '..Said' where nothing that the law and all that it calls make is longer than what came in: it says more and counts as full. Else prove '..UptoSaid'. A law counts once. -/
mutual
def uptoBulk {H : Type} : DataW H → Nat
  | .lit (.string bytes) => bytes.length + 1
  | .lit _ => 1
  | .nil => 1
  | .ptr d => uptoBulk d + 1
  | .slice elems spare => uptoBulkAll elems + uptoBulkAll spare + 1
  | .agg parts => uptoBulkAll parts + 1
  | .iface _ d => uptoBulk d + 1
  | .map entries => uptoBulkEntries entries + 1
  | .held _ => 1
def uptoBulkAll {H : Type} : List (DataW H) → Nat
  | [] => 0
  | d :: r => uptoBulk d + uptoBulkAll r
def uptoBulkEntries {H : Type} : List (Lit × DataW H) → Nat
  | [] => 0
  | x :: r => uptoBulkEntry x + uptoBulkEntries r
def uptoBulkEntry {H : Type} : Lit × DataW H → Nat
  | (.string bytes, d) => bytes.length + uptoBulk d + 1
  | (_, d) => uptoBulk d + 1
 end
def uptoSmall : (H : Type) → List (DataW H) → Bool := fun _ ds => decide (uptoBulkAll ds ≤ 1048576)
def OpenSpec.upto (s : _root_.Go.ChangeSpec) : _root_.Go.OpenSpec := { _root_.Go.OpenSpec.ofChange s with cond := some uptoSmall }

/-- 'steamerlaw26.IsoAsks', WHERE WHAT IT READS IS OF BULK AT MOST 1048576: true; the input reads as it did. -/
def isoAsksUptoRow : OpenClaim := { program := "yteiefdnhngfojaagreatdoor", sum := "4f00aff4f26df359d7b152f29138a186dcc46ddf4d793a3db964b1dcca9e6e6f", func := "steamer/steamerlaw26.IsoAsks", spec := "isoAsks", inPlace := ["internal/bytealg.IndexByteString", "internal/bytealg.IndexString", "internal/bytealg.CountString", "internal/abi.NoEscape", "internal/bytealg.MakeNoZero"], unfollowed := true, recurses := true, named := ["internal/bytealg.MaxLen", "unicode/utf8.first", "unicode/utf8.acceptRanges"], apart := false, laid := [("unicode/utf8.acceptRanges", laid_unicode_utf8_acceptRanges), ("unicode/utf8.first", laid_unicode_utf8_first)], narrowed := true }
def IsoAsksUptoSaid : Prop := isoAsksUptoRow.holds Tryz.pinned (OpenSpec.upto isoAsksSpec)

/-- 'steamerlaw26.IsoSame', WHERE WHAT IT READS IS OF BULK AT MOST 1048576: true; the input reads as it did. -/
def isoSameUptoRow : OpenClaim := { program := "yteiefdnhngfojaagreatdoor", sum := "4f00aff4f26df359d7b152f29138a186dcc46ddf4d793a3db964b1dcca9e6e6f", func := "steamer/steamerlaw26.IsoSame", spec := "isoSame", inPlace := ["internal/bytealg.IndexByteString", "internal/bytealg.IndexString", "internal/bytealg.CountString", "internal/abi.NoEscape", "internal/bytealg.MakeNoZero"], unfollowed := true, recurses := true, named := ["internal/bytealg.MaxLen", "unicode/utf8.first", "unicode/utf8.acceptRanges"], apart := false, laid := [("unicode/utf8.acceptRanges", laid_unicode_utf8_acceptRanges), ("unicode/utf8.first", laid_unicode_utf8_first)], narrowed := true }
def IsoSameUptoSaid : Prop := isoSameUptoRow.holds Tryz.pinned (OpenSpec.upto isoSameSpec)

/-- 'steamerlaw26.IsoSpoilt', WHERE WHAT IT READS IS OF BULK AT MOST 1048576: true; the input reads as it did. -/
def isoSpoiltUptoRow : OpenClaim := { program := "yteiefdnhngfojaagreatdoor", sum := "4f00aff4f26df359d7b152f29138a186dcc46ddf4d793a3db964b1dcca9e6e6f", func := "steamer/steamerlaw26.IsoSpoilt", spec := "isoSpoilt", inPlace := ["internal/bytealg.IndexByteString", "internal/bytealg.IndexString", "internal/bytealg.CountString", "internal/abi.NoEscape", "internal/bytealg.MakeNoZero"], unfollowed := true, recurses := true, named := ["internal/bytealg.MaxLen", "unicode/utf8.first", "unicode/utf8.acceptRanges"], apart := false, laid := [("unicode/utf8.acceptRanges", laid_unicode_utf8_acceptRanges), ("unicode/utf8.first", laid_unicode_utf8_first)], narrowed := true }
def IsoSpoiltUptoSaid : Prop := isoSpoiltUptoRow.holds Tryz.pinned (OpenSpec.upto isoSpoiltSpec)

/-- 'steamerlaw26.IsoParts', WHERE WHAT IT READS IS OF BULK AT MOST 1048576: true; the input reads as it did. -/
def isoPartsUptoRow : OpenClaim := { program := "yteiefdnhngfojaagreatdoor", sum := "4f00aff4f26df359d7b152f29138a186dcc46ddf4d793a3db964b1dcca9e6e6f", func := "steamer/steamerlaw26.IsoParts", spec := "isoParts", inPlace := ["internal/bytealg.IndexByteString", "internal/bytealg.IndexString", "internal/bytealg.CountString", "internal/abi.NoEscape", "internal/bytealg.MakeNoZero"], unfollowed := true, recurses := true, named := ["internal/bytealg.MaxLen", "unicode/utf8.first", "unicode/utf8.acceptRanges"], apart := false, laid := [("unicode/utf8.acceptRanges", laid_unicode_utf8_acceptRanges), ("unicode/utf8.first", laid_unicode_utf8_first)], narrowed := true }
def IsoPartsUptoSaid : Prop := isoPartsUptoRow.holds Tryz.pinned (OpenSpec.upto isoPartsSpec)

/-- 'steamerlaw26.IsoLinks', WHERE WHAT IT READS IS OF BULK AT MOST 1048576: true; the input reads as it did. -/
def isoLinksUptoRow : OpenClaim := { program := "yteiefdnhngfojaagreatdoor", sum := "4f00aff4f26df359d7b152f29138a186dcc46ddf4d793a3db964b1dcca9e6e6f", func := "steamer/steamerlaw26.IsoLinks", spec := "isoLinks", inPlace := ["internal/bytealg.IndexByteString", "internal/bytealg.IndexString", "internal/bytealg.CountString", "internal/abi.NoEscape", "internal/bytealg.MakeNoZero"], unfollowed := true, recurses := true, named := ["internal/bytealg.MaxLen", "unicode/utf8.first", "unicode/utf8.acceptRanges"], apart := false, laid := [("unicode/utf8.acceptRanges", laid_unicode_utf8_acceptRanges), ("unicode/utf8.first", laid_unicode_utf8_first)], narrowed := true }
def IsoLinksUptoSaid : Prop := isoLinksUptoRow.holds Tryz.pinned (OpenSpec.upto isoLinksSpec)

/-- 'steamerlaw24.PlanAsks', WHERE WHAT IT READS IS OF BULK AT MOST 1048576: true; the input reads as it did. -/
def planAsksUptoRow : OpenClaim := { program := "yteiefdnhngfojaagreatdoor", sum := "4f00aff4f26df359d7b152f29138a186dcc46ddf4d793a3db964b1dcca9e6e6f", func := "steamer/steamerlaw24.PlanAsks", spec := "planAsks", inPlace := ["internal/bytealg.IndexByteString", "internal/bytealg.IndexString", "internal/bytealg.CountString", "internal/abi.NoEscape", "internal/bytealg.MakeNoZero"], unfollowed := true, recurses := true, named := ["internal/bytealg.MaxLen", "unicode/utf8.first", "unicode/utf8.acceptRanges"], apart := false, laid := [("unicode/utf8.acceptRanges", laid_unicode_utf8_acceptRanges), ("unicode/utf8.first", laid_unicode_utf8_first)], narrowed := true }
def PlanAsksUptoSaid : Prop := planAsksUptoRow.holds Tryz.pinned (OpenSpec.upto planAsksSpec)

/-- 'steamerlaw24.PlanOrder', WHERE WHAT IT READS IS OF BULK AT MOST 1048576: true; the input reads as it did. -/
def planOrderUptoRow : OpenClaim := { program := "yteiefdnhngfojaagreatdoor", sum := "4f00aff4f26df359d7b152f29138a186dcc46ddf4d793a3db964b1dcca9e6e6f", func := "steamer/steamerlaw24.PlanOrder", spec := "planOrder", inPlace := ["internal/bytealg.IndexByteString", "internal/bytealg.IndexString", "internal/bytealg.CountString", "internal/abi.NoEscape", "internal/bytealg.MakeNoZero"], unfollowed := true, recurses := true, named := ["internal/bytealg.MaxLen", "unicode/utf8.first", "unicode/utf8.acceptRanges"], apart := false, laid := [("unicode/utf8.acceptRanges", laid_unicode_utf8_acceptRanges), ("unicode/utf8.first", laid_unicode_utf8_first)], narrowed := true }
def PlanOrderUptoSaid : Prop := planOrderUptoRow.holds Tryz.pinned (OpenSpec.upto planOrderSpec)

/-- 'steamerlaw24.PlanCounts', WHERE WHAT IT READS IS OF BULK AT MOST 1048576: true; the input reads as it did. -/
def planCountsUptoRow : OpenClaim := { program := "yteiefdnhngfojaagreatdoor", sum := "4f00aff4f26df359d7b152f29138a186dcc46ddf4d793a3db964b1dcca9e6e6f", func := "steamer/steamerlaw24.PlanCounts", spec := "planCounts", inPlace := ["internal/bytealg.IndexByteString", "internal/bytealg.IndexString", "internal/bytealg.CountString", "internal/abi.NoEscape", "internal/bytealg.MakeNoZero"], unfollowed := true, recurses := true, named := ["internal/bytealg.MaxLen", "unicode/utf8.first", "unicode/utf8.acceptRanges"], apart := false, laid := [("unicode/utf8.acceptRanges", laid_unicode_utf8_acceptRanges), ("unicode/utf8.first", laid_unicode_utf8_first)], narrowed := true }
def PlanCountsUptoSaid : Prop := planCountsUptoRow.holds Tryz.pinned (OpenSpec.upto planCountsSpec)

/-- 'steamerlaw24.PlanThere', WHERE WHAT IT READS IS OF BULK AT MOST 1048576: true; the input reads as it did. -/
def planThereUptoRow : OpenClaim := { program := "yteiefdnhngfojaagreatdoor", sum := "4f00aff4f26df359d7b152f29138a186dcc46ddf4d793a3db964b1dcca9e6e6f", func := "steamer/steamerlaw24.PlanThere", spec := "planThere", inPlace := ["internal/bytealg.IndexByteString", "internal/bytealg.IndexString", "internal/bytealg.CountString", "internal/abi.NoEscape", "internal/bytealg.MakeNoZero"], unfollowed := true, recurses := true, named := ["internal/bytealg.MaxLen", "unicode/utf8.first", "unicode/utf8.acceptRanges"], apart := false, laid := [("unicode/utf8.acceptRanges", laid_unicode_utf8_acceptRanges), ("unicode/utf8.first", laid_unicode_utf8_first)], narrowed := true }
def PlanThereUptoSaid : Prop := planThereUptoRow.holds Tryz.pinned (OpenSpec.upto planThereSpec)

/-- 'steamerlaw6.TreeAsks', WHERE WHAT IT READS IS OF BULK AT MOST 1048576: true; the input reads as it did. -/
def treeAsksUptoRow : OpenClaim := { program := "yteiefdnhngfojaagreatdoor", sum := "4f00aff4f26df359d7b152f29138a186dcc46ddf4d793a3db964b1dcca9e6e6f", func := "steamer/steamerlaw6.TreeAsks", spec := "treeAsks", inPlace := ["internal/bytealg.CountString", "internal/bytealg.IndexByteString", "internal/bytealg.IndexString", "internal/abi.NoEscape", "internal/bytealg.MakeNoZero"], unfollowed := true, recurses := true, named := ["unicode/utf8.first", "unicode/utf8.acceptRanges", "internal/bytealg.MaxLen"], apart := false, laid := [("unicode/utf8.acceptRanges", laid_unicode_utf8_acceptRanges), ("unicode/utf8.first", laid_unicode_utf8_first)], narrowed := true }
def TreeAsksUptoSaid : Prop := treeAsksUptoRow.holds Tryz.pinned (OpenSpec.upto treeAsksSpec)

/-- 'steamerlaw6.TreeNorms', WHERE WHAT IT READS IS OF BULK AT MOST 1048576: true; the input reads as it did. -/
def treeNormsUptoRow : OpenClaim := { program := "yteiefdnhngfojaagreatdoor", sum := "4f00aff4f26df359d7b152f29138a186dcc46ddf4d793a3db964b1dcca9e6e6f", func := "steamer/steamerlaw6.TreeNorms", spec := "treeNorms", inPlace := ["internal/bytealg.CountString", "internal/bytealg.IndexByteString", "internal/bytealg.IndexString", "internal/abi.NoEscape", "internal/bytealg.MakeNoZero"], unfollowed := true, recurses := true, named := ["unicode/utf8.first", "unicode/utf8.acceptRanges", "internal/bytealg.MaxLen"], apart := false, laid := [("unicode/utf8.acceptRanges", laid_unicode_utf8_acceptRanges), ("unicode/utf8.first", laid_unicode_utf8_first)], narrowed := true }
def TreeNormsUptoSaid : Prop := treeNormsUptoRow.holds Tryz.pinned (OpenSpec.upto treeNormsSpec)

/-- 'steamerlaw6.TreeParts', WHERE WHAT IT READS IS OF BULK AT MOST 1048576: true; the input reads as it did. -/
def treePartsUptoRow : OpenClaim := { program := "yteiefdnhngfojaagreatdoor", sum := "4f00aff4f26df359d7b152f29138a186dcc46ddf4d793a3db964b1dcca9e6e6f", func := "steamer/steamerlaw6.TreeParts", spec := "treeParts", inPlace := ["internal/bytealg.IndexByteString", "internal/bytealg.IndexString", "internal/bytealg.CountString", "internal/abi.NoEscape", "internal/bytealg.MakeNoZero"], unfollowed := true, recurses := true, named := ["internal/bytealg.MaxLen", "unicode/utf8.first", "unicode/utf8.acceptRanges"], apart := false, laid := [("unicode/utf8.acceptRanges", laid_unicode_utf8_acceptRanges), ("unicode/utf8.first", laid_unicode_utf8_first)], narrowed := true }
def TreePartsUptoSaid : Prop := treePartsUptoRow.holds Tryz.pinned (OpenSpec.upto treePartsSpec)

/-- 'steamerlaw6.TreeClasses', WHERE WHAT IT READS IS OF BULK AT MOST 1048576: true; the input reads as it did. -/
def treeClassesUptoRow : OpenClaim := { program := "yteiefdnhngfojaagreatdoor", sum := "4f00aff4f26df359d7b152f29138a186dcc46ddf4d793a3db964b1dcca9e6e6f", func := "steamer/steamerlaw6.TreeClasses", spec := "treeClasses", inPlace := ["internal/bytealg.CountString", "internal/bytealg.IndexByteString", "internal/bytealg.IndexString", "internal/abi.NoEscape", "internal/bytealg.MakeNoZero"], unfollowed := true, recurses := true, named := ["unicode/utf8.first", "unicode/utf8.acceptRanges", "internal/bytealg.MaxLen"], apart := false, laid := [("unicode/utf8.acceptRanges", laid_unicode_utf8_acceptRanges), ("unicode/utf8.first", laid_unicode_utf8_first)], narrowed := true }
def TreeClassesUptoSaid : Prop := treeClassesUptoRow.holds Tryz.pinned (OpenSpec.upto treeClassesSpec)

/-- 'steamerlaw6.TreeKids', WHERE WHAT IT READS IS OF BULK AT MOST 1048576: true; the input reads as it did. -/
def treeKidsUptoRow : OpenClaim := { program := "yteiefdnhngfojaagreatdoor", sum := "4f00aff4f26df359d7b152f29138a186dcc46ddf4d793a3db964b1dcca9e6e6f", func := "steamer/steamerlaw6.TreeKids", spec := "treeKids", inPlace := ["internal/bytealg.CountString", "internal/bytealg.IndexByteString", "internal/bytealg.IndexString", "internal/abi.NoEscape", "internal/bytealg.MakeNoZero"], unfollowed := true, recurses := true, named := ["unicode/utf8.first", "unicode/utf8.acceptRanges", "internal/bytealg.MaxLen"], apart := false, laid := [("unicode/utf8.acceptRanges", laid_unicode_utf8_acceptRanges), ("unicode/utf8.first", laid_unicode_utf8_first)], narrowed := true }
def TreeKidsUptoSaid : Prop := treeKidsUptoRow.holds Tryz.pinned (OpenSpec.upto treeKidsSpec)

/-- 'steamerlaw6.TreeSpoilt', WHERE WHAT IT READS IS OF BULK AT MOST 1048576: true; the input reads as it did. -/
def treeSpoiltUptoRow : OpenClaim := { program := "yteiefdnhngfojaagreatdoor", sum := "4f00aff4f26df359d7b152f29138a186dcc46ddf4d793a3db964b1dcca9e6e6f", func := "steamer/steamerlaw6.TreeSpoilt", spec := "treeSpoilt", inPlace := ["internal/bytealg.CountString", "internal/bytealg.IndexByteString", "internal/bytealg.IndexString", "internal/abi.NoEscape", "internal/bytealg.MakeNoZero"], unfollowed := true, recurses := true, named := ["unicode/utf8.first", "unicode/utf8.acceptRanges", "internal/bytealg.MaxLen"], apart := false, laid := [("unicode/utf8.acceptRanges", laid_unicode_utf8_acceptRanges), ("unicode/utf8.first", laid_unicode_utf8_first)], narrowed := true }
def TreeSpoiltUptoSaid : Prop := treeSpoiltUptoRow.holds Tryz.pinned (OpenSpec.upto treeSpoiltSpec)

end Rows
end Go.Proofs.YteiefdnhngfojaaGreatDoor
