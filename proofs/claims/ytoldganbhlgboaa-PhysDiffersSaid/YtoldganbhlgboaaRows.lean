/-
  No cell of these rows narrows 'for every input' (looked for: loops, veiled, ifaces, maps, wideKeys, modest, calm, conditions, laid).
  DERIVED. THE GIVEN ROWS OF THIS SEAT. 20 by the template 'for every input the law returns true; each argument reads behind the call as it read before'; 0 by the template 'total and deterministic' (their statements: YtoldganbhlgboaaTotals.lean).
  GIVEN WITH THE SEED: the statements are not yours to turn. If you find one false, say at which input.
  Laid BY PROGRAM, IN A SANDBOX (cutbox-rows.mjs): the forced cells as the released guide's own fill.sh prints them over the translation 4eeaa51366838954… (all of the seat's roots in one cut). By AI agents, Wed Nov 11 2026. No macro, syntax, notation, axiom, sorry.
-/
import Derived.Test.YtoldganbhlgboaaChecked
import GoSem.Claim
import GoSem.ClaimJoined
import GoSem.ClaimMapViews
import Derived.JoinedTies
import Derived.KernelRfl
namespace Go.Proofs.Ytoldganbhlgboaa
/- THE CELL 'sum', in the pinned program and in every row, IS THE sha256 OF THE DUMP (.gsa) THAT YtoldganbhlgboaaProg.lean LOADS. Nothing in Lean hashes anything: it is a label: what it is worth is what the hold of that sum in a sandbox is worth. -/
noncomputable def Try.pinned : Pinned := { name := "ytoldganbhlgboaa", sum := "4eeaa51366838954a75aecde42c8b301c483e21829c38e5f7cee77c45b2a73b1", checked := Try.checked }
namespace Rows
def none {H : Type} : Left H := { results := [], args := [] }

/-- 'portreevelaw16.ObjPlaces': WHATEVER THE INPUT: true; the input reads as it did. -/
def objPlacesSpec : ChangeSpec := { name := "objPlaces", fn := fun _ => fun
  | [d1, d2, d3] => { results := [.lit (.bool true)], args := [d1, d2, d3] }
  | _ => none }
def objPlacesRow : OpenClaim := { program := "ytoldganbhlgboaa", sum := "4eeaa51366838954a75aecde42c8b301c483e21829c38e5f7cee77c45b2a73b1", func := "portreeve/portreevelaw16.ObjPlaces", spec := "objPlaces", apart := false }
def ObjPlacesSaid : Prop := objPlacesRow.holds Try.pinned (OpenSpec.ofChange objPlacesSpec)

/-- ITS FALSE NEIGHBOUR: 'it returns false'. Refute it at one input. -/
def objPlacesWrong : ChangeSpec := { name := "objPlaces", fn := fun _ => fun
  | [d1, d2, d3] => { results := [.lit (.bool false)], args := [d1, d2, d3] }
  | _ => none }
def ObjPlacesWrongFalsely : Prop := objPlacesRow.holds Try.pinned (OpenSpec.ofChange objPlacesWrong)

/-- 'portreevelaw12.SlotLoads': WHATEVER THE INPUT: true; the input reads as it did. -/
def slotLoadsSpec : ChangeSpec := { name := "slotLoads", fn := fun _ => fun
  | [d1, d2] => { results := [.lit (.bool true)], args := [d1, d2] }
  | _ => none }
def slotLoadsRow : OpenClaim := { program := "ytoldganbhlgboaa", sum := "4eeaa51366838954a75aecde42c8b301c483e21829c38e5f7cee77c45b2a73b1", func := "portreeve/portreevelaw12.SlotLoads", spec := "slotLoads", apart := false }
def SlotLoadsSaid : Prop := slotLoadsRow.holds Try.pinned (OpenSpec.ofChange slotLoadsSpec)

/-- ITS FALSE NEIGHBOUR: 'it returns false'. Refute it at one input. -/
def slotLoadsWrong : ChangeSpec := { name := "slotLoads", fn := fun _ => fun
  | [d1, d2] => { results := [.lit (.bool false)], args := [d1, d2] }
  | _ => none }
def SlotLoadsWrongFalsely : Prop := slotLoadsRow.holds Try.pinned (OpenSpec.ofChange slotLoadsWrong)

/-- 'portreevelaw14.PathHigher': WHATEVER THE INPUT: true; the input reads as it did. -/
def pathHigherSpec : ChangeSpec := { name := "pathHigher", fn := fun _ => fun
  | [d1, d2, d3, d4, d5] => { results := [.lit (.bool true)], args := [d1, d2, d3, d4, d5] }
  | _ => none }
def pathHigherRow : OpenClaim := { program := "ytoldganbhlgboaa", sum := "4eeaa51366838954a75aecde42c8b301c483e21829c38e5f7cee77c45b2a73b1", func := "portreeve/portreevelaw14.PathHigher", spec := "pathHigher", unfollowed := true, recurses := true, apart := false }
def PathHigherSaid : Prop := pathHigherRow.holds Try.pinned (OpenSpec.ofChange pathHigherSpec)

/-- ITS FALSE NEIGHBOUR: 'it returns false'. Refute it at one input. -/
def pathHigherWrong : ChangeSpec := { name := "pathHigher", fn := fun _ => fun
  | [d1, d2, d3, d4, d5] => { results := [.lit (.bool false)], args := [d1, d2, d3, d4, d5] }
  | _ => none }
def PathHigherWrongFalsely : Prop := pathHigherRow.holds Try.pinned (OpenSpec.ofChange pathHigherWrong)

/-- 'portreevelaw14.PathWalks': WHATEVER THE INPUT: true; the input reads as it did. -/
def pathWalksSpec : ChangeSpec := { name := "pathWalks", fn := fun _ => fun
  | [d1, d2, d3, d4] => { results := [.lit (.bool true)], args := [d1, d2, d3, d4] }
  | _ => none }
def pathWalksRow : OpenClaim := { program := "ytoldganbhlgboaa", sum := "4eeaa51366838954a75aecde42c8b301c483e21829c38e5f7cee77c45b2a73b1", func := "portreeve/portreevelaw14.PathWalks", spec := "pathWalks", unfollowed := true, recurses := true, apart := false }
def PathWalksSaid : Prop := pathWalksRow.holds Try.pinned (OpenSpec.ofChange pathWalksSpec)

/-- ITS FALSE NEIGHBOUR: 'it returns false'. Refute it at one input. -/
def pathWalksWrong : ChangeSpec := { name := "pathWalks", fn := fun _ => fun
  | [d1, d2, d3, d4] => { results := [.lit (.bool false)], args := [d1, d2, d3, d4] }
  | _ => none }
def PathWalksWrongFalsely : Prop := pathWalksRow.holds Try.pinned (OpenSpec.ofChange pathWalksWrong)

/-- 'portreevelaw15.NodeDerives': WHATEVER THE INPUT: true; the input reads as it did. -/
def nodeDerivesSpec : ChangeSpec := { name := "nodeDerives", fn := fun _ => fun
  | [d1, d2] => { results := [.lit (.bool true)], args := [d1, d2] }
  | _ => none }
def nodeDerivesRow : OpenClaim := { program := "ytoldganbhlgboaa", sum := "4eeaa51366838954a75aecde42c8b301c483e21829c38e5f7cee77c45b2a73b1", func := "portreeve/portreevelaw15.NodeDerives", spec := "nodeDerives", unfollowed := true, recurses := true, apart := false }
def NodeDerivesSaid : Prop := nodeDerivesRow.holds Try.pinned (OpenSpec.ofChange nodeDerivesSpec)

/-- ITS FALSE NEIGHBOUR: 'it returns false'. Refute it at one input. -/
def nodeDerivesWrong : ChangeSpec := { name := "nodeDerives", fn := fun _ => fun
  | [d1, d2] => { results := [.lit (.bool false)], args := [d1, d2] }
  | _ => none }
def NodeDerivesWrongFalsely : Prop := nodeDerivesRow.holds Try.pinned (OpenSpec.ofChange nodeDerivesWrong)

/-- 'portreevelaw15.NodeMarks': WHATEVER THE INPUT: true; the input reads as it did. -/
def nodeMarksSpec : ChangeSpec := { name := "nodeMarks", fn := fun _ => fun
  | [d1, d2] => { results := [.lit (.bool true)], args := [d1, d2] }
  | _ => none }
def nodeMarksRow : OpenClaim := { program := "ytoldganbhlgboaa", sum := "4eeaa51366838954a75aecde42c8b301c483e21829c38e5f7cee77c45b2a73b1", func := "portreeve/portreevelaw15.NodeMarks", spec := "nodeMarks", unfollowed := true, recurses := true, apart := false }
def NodeMarksSaid : Prop := nodeMarksRow.holds Try.pinned (OpenSpec.ofChange nodeMarksSpec)

/-- ITS FALSE NEIGHBOUR: 'it returns false'. Refute it at one input. -/
def nodeMarksWrong : ChangeSpec := { name := "nodeMarks", fn := fun _ => fun
  | [d1, d2] => { results := [.lit (.bool false)], args := [d1, d2] }
  | _ => none }
def NodeMarksWrongFalsely : Prop := nodeMarksRow.holds Try.pinned (OpenSpec.ofChange nodeMarksWrong)

/-- 'portreevelaw14.PathNumbers': WHATEVER THE INPUT: true; the input reads as it did. -/
def pathNumbersSpec : ChangeSpec := { name := "pathNumbers", fn := fun _ => fun
  | [d1, d2] => { results := [.lit (.bool true)], args := [d1, d2] }
  | _ => none }
def pathNumbersRow : OpenClaim := { program := "ytoldganbhlgboaa", sum := "4eeaa51366838954a75aecde42c8b301c483e21829c38e5f7cee77c45b2a73b1", func := "portreeve/portreevelaw14.PathNumbers", spec := "pathNumbers", unfollowed := true, recurses := true, apart := false }
def PathNumbersSaid : Prop := pathNumbersRow.holds Try.pinned (OpenSpec.ofChange pathNumbersSpec)

/-- ITS FALSE NEIGHBOUR: 'it returns false'. Refute it at one input. -/
def pathNumbersWrong : ChangeSpec := { name := "pathNumbers", fn := fun _ => fun
  | [d1, d2] => { results := [.lit (.bool false)], args := [d1, d2] }
  | _ => none }
def PathNumbersWrongFalsely : Prop := pathNumbersRow.holds Try.pinned (OpenSpec.ofChange pathNumbersWrong)

/-- 'portreevelaw14.PathSlots': WHATEVER THE INPUT: true; the input reads as it did. -/
def pathSlotsSpec : ChangeSpec := { name := "pathSlots", fn := fun _ => fun
  | [d1, d2, d3] => { results := [.lit (.bool true)], args := [d1, d2, d3] }
  | _ => none }
def pathSlotsRow : OpenClaim := { program := "ytoldganbhlgboaa", sum := "4eeaa51366838954a75aecde42c8b301c483e21829c38e5f7cee77c45b2a73b1", func := "portreeve/portreevelaw14.PathSlots", spec := "pathSlots", unfollowed := true, recurses := true, apart := false }
def PathSlotsSaid : Prop := pathSlotsRow.holds Try.pinned (OpenSpec.ofChange pathSlotsSpec)

/-- ITS FALSE NEIGHBOUR: 'it returns false'. Refute it at one input. -/
def pathSlotsWrong : ChangeSpec := { name := "pathSlots", fn := fun _ => fun
  | [d1, d2, d3] => { results := [.lit (.bool false)], args := [d1, d2, d3] }
  | _ => none }
def PathSlotsWrongFalsely : Prop := pathSlotsRow.holds Try.pinned (OpenSpec.ofChange pathSlotsWrong)

/-- 'portreevelaw13.TreeBelow': WHATEVER THE INPUT: true; the input reads as it did. -/
def treeBelowSpec : ChangeSpec := { name := "treeBelow", fn := fun _ => fun
  | [d1, d2, d3, d4] => { results := [.lit (.bool true)], args := [d1, d2, d3, d4] }
  | _ => none }
def treeBelowRow : OpenClaim := { program := "ytoldganbhlgboaa", sum := "4eeaa51366838954a75aecde42c8b301c483e21829c38e5f7cee77c45b2a73b1", func := "portreeve/portreevelaw13.TreeBelow", spec := "treeBelow", unfollowed := true, recurses := true, apart := false }
def TreeBelowSaid : Prop := treeBelowRow.holds Try.pinned (OpenSpec.ofChange treeBelowSpec)

/-- ITS FALSE NEIGHBOUR: 'it returns false'. Refute it at one input. -/
def treeBelowWrong : ChangeSpec := { name := "treeBelow", fn := fun _ => fun
  | [d1, d2, d3, d4] => { results := [.lit (.bool false)], args := [d1, d2, d3, d4] }
  | _ => none }
def TreeBelowWrongFalsely : Prop := treeBelowRow.holds Try.pinned (OpenSpec.ofChange treeBelowWrong)

/-- 'portreevelaw13.TreePlays': WHATEVER THE INPUT: true; the input reads as it did. -/
def treePlaysSpec : ChangeSpec := { name := "treePlays", fn := fun _ => fun
  | [d1, d2] => { results := [.lit (.bool true)], args := [d1, d2] }
  | _ => none }
def treePlaysRow : OpenClaim := { program := "ytoldganbhlgboaa", sum := "4eeaa51366838954a75aecde42c8b301c483e21829c38e5f7cee77c45b2a73b1", func := "portreeve/portreevelaw13.TreePlays", spec := "treePlays", unfollowed := true, recurses := true, apart := false }
def TreePlaysSaid : Prop := treePlaysRow.holds Try.pinned (OpenSpec.ofChange treePlaysSpec)

/-- ITS FALSE NEIGHBOUR: 'it returns false'. Refute it at one input. -/
def treePlaysWrong : ChangeSpec := { name := "treePlays", fn := fun _ => fun
  | [d1, d2] => { results := [.lit (.bool false)], args := [d1, d2] }
  | _ => none }
def TreePlaysWrongFalsely : Prop := treePlaysRow.holds Try.pinned (OpenSpec.ofChange treePlaysWrong)

/-- 'portreevelaw03.PhysFinds': WHATEVER THE INPUT: true; the input reads as it did. -/
def physFindsSpec : ChangeSpec := { name := "physFinds", fn := fun _ => fun
  | [d1, d2, d3] => { results := [.lit (.bool true)], args := [d1, d2, d3] }
  | _ => none }
def physFindsRow : OpenClaim := { program := "ytoldganbhlgboaa", sum := "4eeaa51366838954a75aecde42c8b301c483e21829c38e5f7cee77c45b2a73b1", func := "portreeve/portreevelaw03.PhysFinds", spec := "physFinds", recurses := true, apart := false }
def PhysFindsSaid : Prop := physFindsRow.holds Try.pinned (OpenSpec.ofChange physFindsSpec)

/-- ITS FALSE NEIGHBOUR: 'it returns false'. Refute it at one input. -/
def physFindsWrong : ChangeSpec := { name := "physFinds", fn := fun _ => fun
  | [d1, d2, d3] => { results := [.lit (.bool false)], args := [d1, d2, d3] }
  | _ => none }
def PhysFindsWrongFalsely : Prop := physFindsRow.holds Try.pinned (OpenSpec.ofChange physFindsWrong)

/-- 'portreevelaw13.TreeWrites': WHATEVER THE INPUT: true; the input reads as it did. -/
def treeWritesSpec : ChangeSpec := { name := "treeWrites", fn := fun _ => fun
  | [d1, d2, d3] => { results := [.lit (.bool true)], args := [d1, d2, d3] }
  | _ => none }
def treeWritesRow : OpenClaim := { program := "ytoldganbhlgboaa", sum := "4eeaa51366838954a75aecde42c8b301c483e21829c38e5f7cee77c45b2a73b1", func := "portreeve/portreevelaw13.TreeWrites", spec := "treeWrites", unfollowed := true, recurses := true, apart := false }
def TreeWritesSaid : Prop := treeWritesRow.holds Try.pinned (OpenSpec.ofChange treeWritesSpec)

/-- ITS FALSE NEIGHBOUR: 'it returns false'. Refute it at one input. -/
def treeWritesWrong : ChangeSpec := { name := "treeWrites", fn := fun _ => fun
  | [d1, d2, d3] => { results := [.lit (.bool false)], args := [d1, d2, d3] }
  | _ => none }
def TreeWritesWrongFalsely : Prop := treeWritesRow.holds Try.pinned (OpenSpec.ofChange treeWritesWrong)

/-- 'portreevelaw14.PathUnder': WHATEVER THE INPUT: true; the input reads as it did. -/
def pathUnderSpec : ChangeSpec := { name := "pathUnder", fn := fun _ => fun
  | [d1, d2, d3, d4] => { results := [.lit (.bool true)], args := [d1, d2, d3, d4] }
  | _ => none }
def pathUnderRow : OpenClaim := { program := "ytoldganbhlgboaa", sum := "4eeaa51366838954a75aecde42c8b301c483e21829c38e5f7cee77c45b2a73b1", func := "portreeve/portreevelaw14.PathUnder", spec := "pathUnder", unfollowed := true, recurses := true, apart := false }
def PathUnderSaid : Prop := pathUnderRow.holds Try.pinned (OpenSpec.ofChange pathUnderSpec)

/-- ITS FALSE NEIGHBOUR: 'it returns false'. Refute it at one input. -/
def pathUnderWrong : ChangeSpec := { name := "pathUnder", fn := fun _ => fun
  | [d1, d2, d3, d4] => { results := [.lit (.bool false)], args := [d1, d2, d3, d4] }
  | _ => none }
def PathUnderWrongFalsely : Prop := pathUnderRow.holds Try.pinned (OpenSpec.ofChange pathUnderWrong)

/-- 'portreevelaw03.PhysSame': WHATEVER THE INPUT: true; the input reads as it did. -/
def physSameSpec : ChangeSpec := { name := "physSame", fn := fun _ => fun
  | [d1, d2, d3] => { results := [.lit (.bool true)], args := [d1, d2, d3] }
  | _ => none }
def physSameRow : OpenClaim := { program := "ytoldganbhlgboaa", sum := "4eeaa51366838954a75aecde42c8b301c483e21829c38e5f7cee77c45b2a73b1", func := "portreeve/portreevelaw03.PhysSame", spec := "physSame", recurses := true, apart := false }
def PhysSameSaid : Prop := physSameRow.holds Try.pinned (OpenSpec.ofChange physSameSpec)

/-- ITS FALSE NEIGHBOUR: 'it returns false'. Refute it at one input. -/
def physSameWrong : ChangeSpec := { name := "physSame", fn := fun _ => fun
  | [d1, d2, d3] => { results := [.lit (.bool false)], args := [d1, d2, d3] }
  | _ => none }
def PhysSameWrongFalsely : Prop := physSameRow.holds Try.pinned (OpenSpec.ofChange physSameWrong)

/-- 'portreevelaw13.TreeParents': WHATEVER THE INPUT: true; the input reads as it did. -/
def treeParentsSpec : ChangeSpec := { name := "treeParents", fn := fun _ => fun
  | [d1, d2] => { results := [.lit (.bool true)], args := [d1, d2] }
  | _ => none }
def treeParentsRow : OpenClaim := { program := "ytoldganbhlgboaa", sum := "4eeaa51366838954a75aecde42c8b301c483e21829c38e5f7cee77c45b2a73b1", func := "portreeve/portreevelaw13.TreeParents", spec := "treeParents", unfollowed := true, recurses := true, apart := false }
def TreeParentsSaid : Prop := treeParentsRow.holds Try.pinned (OpenSpec.ofChange treeParentsSpec)

/-- ITS FALSE NEIGHBOUR: 'it returns false'. Refute it at one input. -/
def treeParentsWrong : ChangeSpec := { name := "treeParents", fn := fun _ => fun
  | [d1, d2] => { results := [.lit (.bool false)], args := [d1, d2] }
  | _ => none }
def TreeParentsWrongFalsely : Prop := treeParentsRow.holds Try.pinned (OpenSpec.ofChange treeParentsWrong)

/-- 'portreevelaw03.PhysPlays': WHATEVER THE INPUT: true; the input reads as it did. -/
def physPlaysSpec : ChangeSpec := { name := "physPlays", fn := fun _ => fun
  | [d1, d2] => { results := [.lit (.bool true)], args := [d1, d2] }
  | _ => none }
def physPlaysRow : OpenClaim := { program := "ytoldganbhlgboaa", sum := "4eeaa51366838954a75aecde42c8b301c483e21829c38e5f7cee77c45b2a73b1", func := "portreeve/portreevelaw03.PhysPlays", spec := "physPlays", unfollowed := true, recurses := true, apart := false }
def PhysPlaysSaid : Prop := physPlaysRow.holds Try.pinned (OpenSpec.ofChange physPlaysSpec)

/-- ITS FALSE NEIGHBOUR: 'it returns false'. Refute it at one input. -/
def physPlaysWrong : ChangeSpec := { name := "physPlays", fn := fun _ => fun
  | [d1, d2] => { results := [.lit (.bool false)], args := [d1, d2] }
  | _ => none }
def PhysPlaysWrongFalsely : Prop := physPlaysRow.holds Try.pinned (OpenSpec.ofChange physPlaysWrong)

/-- 'portreevelaw03.PhysClears': WHATEVER THE INPUT: true; the input reads as it did. -/
def physClearsSpec : ChangeSpec := { name := "physClears", fn := fun _ => fun
  | [d1, d2, d3] => { results := [.lit (.bool true)], args := [d1, d2, d3] }
  | _ => none }
def physClearsRow : OpenClaim := { program := "ytoldganbhlgboaa", sum := "4eeaa51366838954a75aecde42c8b301c483e21829c38e5f7cee77c45b2a73b1", func := "portreeve/portreevelaw03.PhysClears", spec := "physClears", unfollowed := true, recurses := true, apart := false }
def PhysClearsSaid : Prop := physClearsRow.holds Try.pinned (OpenSpec.ofChange physClearsSpec)

/-- ITS FALSE NEIGHBOUR: 'it returns false'. Refute it at one input. -/
def physClearsWrong : ChangeSpec := { name := "physClears", fn := fun _ => fun
  | [d1, d2, d3] => { results := [.lit (.bool false)], args := [d1, d2, d3] }
  | _ => none }
def PhysClearsWrongFalsely : Prop := physClearsRow.holds Try.pinned (OpenSpec.ofChange physClearsWrong)

/-- 'portreevelaw03.PhysDiffers': WHATEVER THE INPUT: true; the input reads as it did. -/
def physDiffersSpec : ChangeSpec := { name := "physDiffers", fn := fun _ => fun
  | [d1, d2, d3] => { results := [.lit (.bool true)], args := [d1, d2, d3] }
  | _ => none }
def physDiffersRow : OpenClaim := { program := "ytoldganbhlgboaa", sum := "4eeaa51366838954a75aecde42c8b301c483e21829c38e5f7cee77c45b2a73b1", func := "portreeve/portreevelaw03.PhysDiffers", spec := "physDiffers", recurses := true, apart := false }
def PhysDiffersSaid : Prop := physDiffersRow.holds Try.pinned (OpenSpec.ofChange physDiffersSpec)

/-- ITS FALSE NEIGHBOUR: 'it returns false'. Refute it at one input. -/
def physDiffersWrong : ChangeSpec := { name := "physDiffers", fn := fun _ => fun
  | [d1, d2, d3] => { results := [.lit (.bool false)], args := [d1, d2, d3] }
  | _ => none }
def PhysDiffersWrongFalsely : Prop := physDiffersRow.holds Try.pinned (OpenSpec.ofChange physDiffersWrong)

/-- 'portreevelaw12.SlotStores': WHATEVER THE INPUT: true; the input reads as it did. -/
def slotStoresSpec : ChangeSpec := { name := "slotStores", fn := fun _ => fun
  | [d1, d2, d3] => { results := [.lit (.bool true)], args := [d1, d2, d3] }
  | _ => none }
def slotStoresRow : OpenClaim := { program := "ytoldganbhlgboaa", sum := "4eeaa51366838954a75aecde42c8b301c483e21829c38e5f7cee77c45b2a73b1", func := "portreeve/portreevelaw12.SlotStores", spec := "slotStores", recurses := true, apart := false }
def SlotStoresSaid : Prop := slotStoresRow.holds Try.pinned (OpenSpec.ofChange slotStoresSpec)

/-- ITS FALSE NEIGHBOUR: 'it returns false'. Refute it at one input. -/
def slotStoresWrong : ChangeSpec := { name := "slotStores", fn := fun _ => fun
  | [d1, d2, d3] => { results := [.lit (.bool false)], args := [d1, d2, d3] }
  | _ => none }
def SlotStoresWrongFalsely : Prop := slotStoresRow.holds Try.pinned (OpenSpec.ofChange slotStoresWrong)

/-- 'portreevelaw12.SlotWipes': WHATEVER THE INPUT: true; the input reads as it did. -/
def slotWipesSpec : ChangeSpec := { name := "slotWipes", fn := fun _ => fun
  | [d1, d2, d3, d4] => { results := [.lit (.bool true)], args := [d1, d2, d3, d4] }
  | _ => none }
def slotWipesRow : OpenClaim := { program := "ytoldganbhlgboaa", sum := "4eeaa51366838954a75aecde42c8b301c483e21829c38e5f7cee77c45b2a73b1", func := "portreeve/portreevelaw12.SlotWipes", spec := "slotWipes", recurses := true, apart := false }
def SlotWipesSaid : Prop := slotWipesRow.holds Try.pinned (OpenSpec.ofChange slotWipesSpec)

/-- ITS FALSE NEIGHBOUR: 'it returns false'. Refute it at one input. -/
def slotWipesWrong : ChangeSpec := { name := "slotWipes", fn := fun _ => fun
  | [d1, d2, d3, d4] => { results := [.lit (.bool false)], args := [d1, d2, d3, d4] }
  | _ => none }
def SlotWipesWrongFalsely : Prop := slotWipesRow.holds Try.pinned (OpenSpec.ofChange slotWipesWrong)

/- THE SECOND FORM. 'bulk': how many values and letters a reading holds, each counted each time it is reached (what is shared counts as often as it is met; a slice's spare places count too). A statement '..UptoSaid' is the law's where the arguments, and the package variables that the reading takes, are together of bulk at most 1048576: NARROWER than '..Said'. Prove '..Said' where nothing that the law and all that it calls make is longer than what came in: it says more and counts as full. Else prove '..UptoSaid'. A law counts once. -/
mutual
def uptoBulk {H : Type} : DataW H → Nat
  | .lit (.string bytes) => bytes.length + 1
  | .lit _ => 1
  | .nil => 1
  | .ptr d => uptoBulk d + 1
  | .slice elems spare => uptoBulkAll elems + uptoBulkAll spare + 1
  | .agg parts => uptoBulkAll parts + 1
  | .iface _ d => uptoBulk d + 1
  | .map entries => uptoBulkEntries entries + 1
  | .held _ => 1
def uptoBulkAll {H : Type} : List (DataW H) → Nat
  | [] => 0
  | d :: r => uptoBulk d + uptoBulkAll r
def uptoBulkEntries {H : Type} : List (Lit × DataW H) → Nat
  | [] => 0
  | x :: r => uptoBulkEntry x + uptoBulkEntries r
def uptoBulkEntry {H : Type} : Lit × DataW H → Nat
  | (.string bytes, d) => bytes.length + uptoBulk d + 1
  | (_, d) => uptoBulk d + 1
 end
def uptoSmall : (H : Type) → List (DataW H) → Bool := fun _ ds => decide (uptoBulkAll ds ≤ 1048576)
def OpenSpec.upto (s : _root_.Go.ChangeSpec) : _root_.Go.OpenSpec := { _root_.Go.OpenSpec.ofChange s with cond := some uptoSmall }

/-- 'portreevelaw16.ObjPlaces', WHERE WHAT IT READS IS OF BULK AT MOST 1048576: true; the input reads as it did. -/
def objPlacesUptoRow : OpenClaim := { program := "ytoldganbhlgboaa", sum := "4eeaa51366838954a75aecde42c8b301c483e21829c38e5f7cee77c45b2a73b1", func := "portreeve/portreevelaw16.ObjPlaces", spec := "objPlaces", apart := false, narrowed := true }
def ObjPlacesUptoSaid : Prop := objPlacesUptoRow.holds Try.pinned (OpenSpec.upto objPlacesSpec)

/-- 'portreevelaw12.SlotLoads', WHERE WHAT IT READS IS OF BULK AT MOST 1048576: true; the input reads as it did. -/
def slotLoadsUptoRow : OpenClaim := { program := "ytoldganbhlgboaa", sum := "4eeaa51366838954a75aecde42c8b301c483e21829c38e5f7cee77c45b2a73b1", func := "portreeve/portreevelaw12.SlotLoads", spec := "slotLoads", apart := false, narrowed := true }
def SlotLoadsUptoSaid : Prop := slotLoadsUptoRow.holds Try.pinned (OpenSpec.upto slotLoadsSpec)

/-- 'portreevelaw14.PathHigher', WHERE WHAT IT READS IS OF BULK AT MOST 1048576: true; the input reads as it did. -/
def pathHigherUptoRow : OpenClaim := { program := "ytoldganbhlgboaa", sum := "4eeaa51366838954a75aecde42c8b301c483e21829c38e5f7cee77c45b2a73b1", func := "portreeve/portreevelaw14.PathHigher", spec := "pathHigher", unfollowed := true, recurses := true, apart := false, narrowed := true }
def PathHigherUptoSaid : Prop := pathHigherUptoRow.holds Try.pinned (OpenSpec.upto pathHigherSpec)

/-- 'portreevelaw14.PathWalks', WHERE WHAT IT READS IS OF BULK AT MOST 1048576: true; the input reads as it did. -/
def pathWalksUptoRow : OpenClaim := { program := "ytoldganbhlgboaa", sum := "4eeaa51366838954a75aecde42c8b301c483e21829c38e5f7cee77c45b2a73b1", func := "portreeve/portreevelaw14.PathWalks", spec := "pathWalks", unfollowed := true, recurses := true, apart := false, narrowed := true }
def PathWalksUptoSaid : Prop := pathWalksUptoRow.holds Try.pinned (OpenSpec.upto pathWalksSpec)

/-- 'portreevelaw15.NodeDerives', WHERE WHAT IT READS IS OF BULK AT MOST 1048576: true; the input reads as it did. -/
def nodeDerivesUptoRow : OpenClaim := { program := "ytoldganbhlgboaa", sum := "4eeaa51366838954a75aecde42c8b301c483e21829c38e5f7cee77c45b2a73b1", func := "portreeve/portreevelaw15.NodeDerives", spec := "nodeDerives", unfollowed := true, recurses := true, apart := false, narrowed := true }
def NodeDerivesUptoSaid : Prop := nodeDerivesUptoRow.holds Try.pinned (OpenSpec.upto nodeDerivesSpec)

/-- 'portreevelaw15.NodeMarks', WHERE WHAT IT READS IS OF BULK AT MOST 1048576: true; the input reads as it did. -/
def nodeMarksUptoRow : OpenClaim := { program := "ytoldganbhlgboaa", sum := "4eeaa51366838954a75aecde42c8b301c483e21829c38e5f7cee77c45b2a73b1", func := "portreeve/portreevelaw15.NodeMarks", spec := "nodeMarks", unfollowed := true, recurses := true, apart := false, narrowed := true }
def NodeMarksUptoSaid : Prop := nodeMarksUptoRow.holds Try.pinned (OpenSpec.upto nodeMarksSpec)

/-- 'portreevelaw14.PathNumbers', WHERE WHAT IT READS IS OF BULK AT MOST 1048576: true; the input reads as it did. -/
def pathNumbersUptoRow : OpenClaim := { program := "ytoldganbhlgboaa", sum := "4eeaa51366838954a75aecde42c8b301c483e21829c38e5f7cee77c45b2a73b1", func := "portreeve/portreevelaw14.PathNumbers", spec := "pathNumbers", unfollowed := true, recurses := true, apart := false, narrowed := true }
def PathNumbersUptoSaid : Prop := pathNumbersUptoRow.holds Try.pinned (OpenSpec.upto pathNumbersSpec)

/-- 'portreevelaw14.PathSlots', WHERE WHAT IT READS IS OF BULK AT MOST 1048576: true; the input reads as it did. -/
def pathSlotsUptoRow : OpenClaim := { program := "ytoldganbhlgboaa", sum := "4eeaa51366838954a75aecde42c8b301c483e21829c38e5f7cee77c45b2a73b1", func := "portreeve/portreevelaw14.PathSlots", spec := "pathSlots", unfollowed := true, recurses := true, apart := false, narrowed := true }
def PathSlotsUptoSaid : Prop := pathSlotsUptoRow.holds Try.pinned (OpenSpec.upto pathSlotsSpec)

/-- 'portreevelaw13.TreeBelow', WHERE WHAT IT READS IS OF BULK AT MOST 1048576: true; the input reads as it did. -/
def treeBelowUptoRow : OpenClaim := { program := "ytoldganbhlgboaa", sum := "4eeaa51366838954a75aecde42c8b301c483e21829c38e5f7cee77c45b2a73b1", func := "portreeve/portreevelaw13.TreeBelow", spec := "treeBelow", unfollowed := true, recurses := true, apart := false, narrowed := true }
def TreeBelowUptoSaid : Prop := treeBelowUptoRow.holds Try.pinned (OpenSpec.upto treeBelowSpec)

/-- 'portreevelaw13.TreePlays', WHERE WHAT IT READS IS OF BULK AT MOST 1048576: true; the input reads as it did. -/
def treePlaysUptoRow : OpenClaim := { program := "ytoldganbhlgboaa", sum := "4eeaa51366838954a75aecde42c8b301c483e21829c38e5f7cee77c45b2a73b1", func := "portreeve/portreevelaw13.TreePlays", spec := "treePlays", unfollowed := true, recurses := true, apart := false, narrowed := true }
def TreePlaysUptoSaid : Prop := treePlaysUptoRow.holds Try.pinned (OpenSpec.upto treePlaysSpec)

/-- 'portreevelaw03.PhysFinds', WHERE WHAT IT READS IS OF BULK AT MOST 1048576: true; the input reads as it did. -/
def physFindsUptoRow : OpenClaim := { program := "ytoldganbhlgboaa", sum := "4eeaa51366838954a75aecde42c8b301c483e21829c38e5f7cee77c45b2a73b1", func := "portreeve/portreevelaw03.PhysFinds", spec := "physFinds", recurses := true, apart := false, narrowed := true }
def PhysFindsUptoSaid : Prop := physFindsUptoRow.holds Try.pinned (OpenSpec.upto physFindsSpec)

/-- 'portreevelaw13.TreeWrites', WHERE WHAT IT READS IS OF BULK AT MOST 1048576: true; the input reads as it did. -/
def treeWritesUptoRow : OpenClaim := { program := "ytoldganbhlgboaa", sum := "4eeaa51366838954a75aecde42c8b301c483e21829c38e5f7cee77c45b2a73b1", func := "portreeve/portreevelaw13.TreeWrites", spec := "treeWrites", unfollowed := true, recurses := true, apart := false, narrowed := true }
def TreeWritesUptoSaid : Prop := treeWritesUptoRow.holds Try.pinned (OpenSpec.upto treeWritesSpec)

/-- 'portreevelaw14.PathUnder', WHERE WHAT IT READS IS OF BULK AT MOST 1048576: true; the input reads as it did. -/
def pathUnderUptoRow : OpenClaim := { program := "ytoldganbhlgboaa", sum := "4eeaa51366838954a75aecde42c8b301c483e21829c38e5f7cee77c45b2a73b1", func := "portreeve/portreevelaw14.PathUnder", spec := "pathUnder", unfollowed := true, recurses := true, apart := false, narrowed := true }
def PathUnderUptoSaid : Prop := pathUnderUptoRow.holds Try.pinned (OpenSpec.upto pathUnderSpec)

/-- 'portreevelaw03.PhysSame', WHERE WHAT IT READS IS OF BULK AT MOST 1048576: true; the input reads as it did. -/
def physSameUptoRow : OpenClaim := { program := "ytoldganbhlgboaa", sum := "4eeaa51366838954a75aecde42c8b301c483e21829c38e5f7cee77c45b2a73b1", func := "portreeve/portreevelaw03.PhysSame", spec := "physSame", recurses := true, apart := false, narrowed := true }
def PhysSameUptoSaid : Prop := physSameUptoRow.holds Try.pinned (OpenSpec.upto physSameSpec)

/-- 'portreevelaw13.TreeParents', WHERE WHAT IT READS IS OF BULK AT MOST 1048576: true; the input reads as it did. -/
def treeParentsUptoRow : OpenClaim := { program := "ytoldganbhlgboaa", sum := "4eeaa51366838954a75aecde42c8b301c483e21829c38e5f7cee77c45b2a73b1", func := "portreeve/portreevelaw13.TreeParents", spec := "treeParents", unfollowed := true, recurses := true, apart := false, narrowed := true }
def TreeParentsUptoSaid : Prop := treeParentsUptoRow.holds Try.pinned (OpenSpec.upto treeParentsSpec)

/-- 'portreevelaw03.PhysPlays', WHERE WHAT IT READS IS OF BULK AT MOST 1048576: true; the input reads as it did. -/
def physPlaysUptoRow : OpenClaim := { program := "ytoldganbhlgboaa", sum := "4eeaa51366838954a75aecde42c8b301c483e21829c38e5f7cee77c45b2a73b1", func := "portreeve/portreevelaw03.PhysPlays", spec := "physPlays", unfollowed := true, recurses := true, apart := false, narrowed := true }
def PhysPlaysUptoSaid : Prop := physPlaysUptoRow.holds Try.pinned (OpenSpec.upto physPlaysSpec)

/-- 'portreevelaw03.PhysClears', WHERE WHAT IT READS IS OF BULK AT MOST 1048576: true; the input reads as it did. -/
def physClearsUptoRow : OpenClaim := { program := "ytoldganbhlgboaa", sum := "4eeaa51366838954a75aecde42c8b301c483e21829c38e5f7cee77c45b2a73b1", func := "portreeve/portreevelaw03.PhysClears", spec := "physClears", unfollowed := true, recurses := true, apart := false, narrowed := true }
def PhysClearsUptoSaid : Prop := physClearsUptoRow.holds Try.pinned (OpenSpec.upto physClearsSpec)

/-- 'portreevelaw03.PhysDiffers', WHERE WHAT IT READS IS OF BULK AT MOST 1048576: true; the input reads as it did. -/
def physDiffersUptoRow : OpenClaim := { program := "ytoldganbhlgboaa", sum := "4eeaa51366838954a75aecde42c8b301c483e21829c38e5f7cee77c45b2a73b1", func := "portreeve/portreevelaw03.PhysDiffers", spec := "physDiffers", recurses := true, apart := false, narrowed := true }
def PhysDiffersUptoSaid : Prop := physDiffersUptoRow.holds Try.pinned (OpenSpec.upto physDiffersSpec)

/-- 'portreevelaw12.SlotStores', WHERE WHAT IT READS IS OF BULK AT MOST 1048576: true; the input reads as it did. -/
def slotStoresUptoRow : OpenClaim := { program := "ytoldganbhlgboaa", sum := "4eeaa51366838954a75aecde42c8b301c483e21829c38e5f7cee77c45b2a73b1", func := "portreeve/portreevelaw12.SlotStores", spec := "slotStores", recurses := true, apart := false, narrowed := true }
def SlotStoresUptoSaid : Prop := slotStoresUptoRow.holds Try.pinned (OpenSpec.upto slotStoresSpec)

/-- 'portreevelaw12.SlotWipes', WHERE WHAT IT READS IS OF BULK AT MOST 1048576: true; the input reads as it did. -/
def slotWipesUptoRow : OpenClaim := { program := "ytoldganbhlgboaa", sum := "4eeaa51366838954a75aecde42c8b301c483e21829c38e5f7cee77c45b2a73b1", func := "portreeve/portreevelaw12.SlotWipes", spec := "slotWipes", recurses := true, apart := false, narrowed := true }
def SlotWipesUptoSaid : Prop := slotWipesUptoRow.holds Try.pinned (OpenSpec.upto slotWipesSpec)

end Rows
end Go.Proofs.Ytoldganbhlgboaa
