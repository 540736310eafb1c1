/-
  No cell of these rows narrows 'for every input' (looked for: loops, veiled, ifaces, maps, wideKeys, modest, calm, conditions, laid).
  DERIVED. THE GIVEN ROWS OF THIS SEAT. 11 by the template 'for every input the law returns true; each argument reads behind the call as it read before'; 0 by the template 'total and deterministic' (their statements: YtloeihhocifnpaaTotals.lean).
  GIVEN WITH THE SEED: the statements are not yours to turn. If you find one false, say at which input.
  Laid BY PROGRAM, IN A SANDBOX (cutbox-rows.mjs): the forced cells as the released guide's own fill.sh prints them over the translation 015b1cd46fc360bb… (all of the seat's roots in one cut). By AI agents, Wed Nov 11 2026. No macro, syntax, notation, axiom, sorry.
-/
import Derived.Test.YtloeihhocifnpaaChecked
import GoSem.Claim
import GoSem.ClaimJoined
import GoSem.ClaimMapViews
import Derived.JoinedTies
import Derived.KernelRfl
namespace Go.Proofs.Ytloeihhocifnpaa
/- THE CELL 'sum', in the pinned program and in every row, IS THE sha256 OF THE DUMP (.gsa) THAT YtloeihhocifnpaaProg.lean LOADS. Nothing in Lean hashes anything: it is a label: what it is worth is what the hold of that sum in a sandbox is worth. -/
noncomputable def Try.pinned : Pinned := { name := "ytloeihhocifnpaa", sum := "015b1cd46fc360bb9bbe23743a5f1057e727e6c11c91031954b9b5aa982239f4", checked := Try.checked }
namespace Rows
def none {H : Type} : Left H := { results := [], args := [] }

/-- 'portreevelaw11.CapWords': WHATEVER THE INPUT: true; the input reads as it did. -/
def capWordsSpec : ChangeSpec := { name := "capWords", fn := fun _ => fun
  | [d] => { results := [.lit (.bool true)], args := [d] }
  | _ => none }
def capWordsRow : OpenClaim := { program := "ytloeihhocifnpaa", sum := "015b1cd46fc360bb9bbe23743a5f1057e727e6c11c91031954b9b5aa982239f4", func := "portreeve/portreevelaw11.CapWords", spec := "capWords", apart := false }
def CapWordsSaid : Prop := capWordsRow.holds Try.pinned (OpenSpec.ofChange capWordsSpec)

/-- ITS FALSE NEIGHBOUR: 'it returns false'. Refute it at one input. -/
def capWordsWrong : ChangeSpec := { name := "capWords", fn := fun _ => fun
  | [d] => { results := [.lit (.bool false)], args := [d] }
  | _ => none }
def CapWordsWrongFalsely : Prop := capWordsRow.holds Try.pinned (OpenSpec.ofChange capWordsWrong)

/-- 'portreevelaw11.CapReads': WHATEVER THE INPUT: true; the input reads as it did. -/
def capReadsSpec : ChangeSpec := { name := "capReads", fn := fun _ => fun
  | [d1, d2] => { results := [.lit (.bool true)], args := [d1, d2] }
  | _ => none }
def capReadsRow : OpenClaim := { program := "ytloeihhocifnpaa", sum := "015b1cd46fc360bb9bbe23743a5f1057e727e6c11c91031954b9b5aa982239f4", func := "portreeve/portreevelaw11.CapReads", spec := "capReads", apart := false }
def CapReadsSaid : Prop := capReadsRow.holds Try.pinned (OpenSpec.ofChange capReadsSpec)

/-- ITS FALSE NEIGHBOUR: 'it returns false'. Refute it at one input. -/
def capReadsWrong : ChangeSpec := { name := "capReads", fn := fun _ => fun
  | [d1, d2] => { results := [.lit (.bool false)], args := [d1, d2] }
  | _ => none }
def CapReadsWrongFalsely : Prop := capReadsRow.holds Try.pinned (OpenSpec.ofChange capReadsWrong)

/-- 'portreevelaw11.CapNames': WHATEVER THE INPUT: true; the input reads as it did. -/
def capNamesSpec : ChangeSpec := { name := "capNames", fn := fun _ => fun
  | [d1, d2] => { results := [.lit (.bool true)], args := [d1, d2] }
  | _ => none }
def capNamesRow : OpenClaim := { program := "ytloeihhocifnpaa", sum := "015b1cd46fc360bb9bbe23743a5f1057e727e6c11c91031954b9b5aa982239f4", func := "portreeve/portreevelaw11.CapNames", spec := "capNames", apart := false }
def CapNamesSaid : Prop := capNamesRow.holds Try.pinned (OpenSpec.ofChange capNamesSpec)

/-- ITS FALSE NEIGHBOUR: 'it returns false'. Refute it at one input. -/
def capNamesWrong : ChangeSpec := { name := "capNames", fn := fun _ => fun
  | [d1, d2] => { results := [.lit (.bool false)], args := [d1, d2] }
  | _ => none }
def CapNamesWrongFalsely : Prop := capNamesRow.holds Try.pinned (OpenSpec.ofChange capNamesWrong)

/-- 'portreevelaw16.ObjBytes': WHATEVER THE INPUT: true; the input reads as it did. -/
def objBytesSpec : ChangeSpec := { name := "objBytes", fn := fun _ => fun
  | [d1, d2, d3] => { results := [.lit (.bool true)], args := [d1, d2, d3] }
  | _ => none }
def objBytesRow : OpenClaim := { program := "ytloeihhocifnpaa", sum := "015b1cd46fc360bb9bbe23743a5f1057e727e6c11c91031954b9b5aa982239f4", func := "portreeve/portreevelaw16.ObjBytes", spec := "objBytes", apart := false }
def ObjBytesSaid : Prop := objBytesRow.holds Try.pinned (OpenSpec.ofChange objBytesSpec)

/-- ITS FALSE NEIGHBOUR: 'it returns false'. Refute it at one input. -/
def objBytesWrong : ChangeSpec := { name := "objBytes", fn := fun _ => fun
  | [d1, d2, d3] => { results := [.lit (.bool false)], args := [d1, d2, d3] }
  | _ => none }
def ObjBytesWrongFalsely : Prop := objBytesRow.holds Try.pinned (OpenSpec.ofChange objBytesWrong)

/-- 'portreevelaw11.CapCovers': WHATEVER THE INPUT: true; the input reads as it did. -/
def capCoversSpec : ChangeSpec := { name := "capCovers", fn := fun _ => fun
  | [d1, d2] => { results := [.lit (.bool true)], args := [d1, d2] }
  | _ => none }
def capCoversRow : OpenClaim := { program := "ytloeihhocifnpaa", sum := "015b1cd46fc360bb9bbe23743a5f1057e727e6c11c91031954b9b5aa982239f4", func := "portreeve/portreevelaw11.CapCovers", spec := "capCovers", apart := false }
def CapCoversSaid : Prop := capCoversRow.holds Try.pinned (OpenSpec.ofChange capCoversSpec)

/-- ITS FALSE NEIGHBOUR: 'it returns false'. Refute it at one input. -/
def capCoversWrong : ChangeSpec := { name := "capCovers", fn := fun _ => fun
  | [d1, d2] => { results := [.lit (.bool false)], args := [d1, d2] }
  | _ => none }
def CapCoversWrongFalsely : Prop := capCoversRow.holds Try.pinned (OpenSpec.ofChange capCoversWrong)

/-- 'portreevelaw11.CapSizes': WHATEVER THE INPUT: true; the input reads as it did. -/
def capSizesSpec : ChangeSpec := { name := "capSizes", fn := fun _ => fun
  | [d] => { results := [.lit (.bool true)], args := [d] }
  | _ => none }
def capSizesRow : OpenClaim := { program := "ytloeihhocifnpaa", sum := "015b1cd46fc360bb9bbe23743a5f1057e727e6c11c91031954b9b5aa982239f4", func := "portreeve/portreevelaw11.CapSizes", spec := "capSizes", apart := false }
def CapSizesSaid : Prop := capSizesRow.holds Try.pinned (OpenSpec.ofChange capSizesSpec)

/-- ITS FALSE NEIGHBOUR: 'it returns false'. Refute it at one input. -/
def capSizesWrong : ChangeSpec := { name := "capSizes", fn := fun _ => fun
  | [d] => { results := [.lit (.bool false)], args := [d] }
  | _ => none }
def CapSizesWrongFalsely : Prop := capSizesRow.holds Try.pinned (OpenSpec.ofChange capSizesWrong)

/-- 'portreevelaw11.CapObjects': WHATEVER THE INPUT: true; the input reads as it did. -/
def capObjectsSpec : ChangeSpec := { name := "capObjects", fn := fun _ => fun
  | [d] => { results := [.lit (.bool true)], args := [d] }
  | _ => none }
def capObjectsRow : OpenClaim := { program := "ytloeihhocifnpaa", sum := "015b1cd46fc360bb9bbe23743a5f1057e727e6c11c91031954b9b5aa982239f4", func := "portreeve/portreevelaw11.CapObjects", spec := "capObjects", apart := false }
def CapObjectsSaid : Prop := capObjectsRow.holds Try.pinned (OpenSpec.ofChange capObjectsSpec)

/-- ITS FALSE NEIGHBOUR: 'it returns false'. Refute it at one input. -/
def capObjectsWrong : ChangeSpec := { name := "capObjects", fn := fun _ => fun
  | [d] => { results := [.lit (.bool false)], args := [d] }
  | _ => none }
def CapObjectsWrongFalsely : Prop := capObjectsRow.holds Try.pinned (OpenSpec.ofChange capObjectsWrong)

/-- 'portreevelaw16.ObjFresh': WHATEVER THE INPUT: true; the input reads as it did. -/
def objFreshSpec : ChangeSpec := { name := "objFresh", fn := fun _ => fun
  | [d1, d2, d3] => { results := [.lit (.bool true)], args := [d1, d2, d3] }
  | _ => none }
def objFreshRow : OpenClaim := { program := "ytloeihhocifnpaa", sum := "015b1cd46fc360bb9bbe23743a5f1057e727e6c11c91031954b9b5aa982239f4", func := "portreeve/portreevelaw16.ObjFresh", spec := "objFresh", apart := false }
def ObjFreshSaid : Prop := objFreshRow.holds Try.pinned (OpenSpec.ofChange objFreshSpec)

/-- ITS FALSE NEIGHBOUR: 'it returns false'. Refute it at one input. -/
def objFreshWrong : ChangeSpec := { name := "objFresh", fn := fun _ => fun
  | [d1, d2, d3] => { results := [.lit (.bool false)], args := [d1, d2, d3] }
  | _ => none }
def ObjFreshWrongFalsely : Prop := objFreshRow.holds Try.pinned (OpenSpec.ofChange objFreshWrong)

/-- 'portreevelaw11.CapShows': WHATEVER THE INPUT: true; the input reads as it did. -/
def capShowsSpec : ChangeSpec := { name := "capShows", fn := fun _ => fun
  | [d] => { results := [.lit (.bool true)], args := [d] }
  | _ => none }
def capShowsRow : OpenClaim := { program := "ytloeihhocifnpaa", sum := "015b1cd46fc360bb9bbe23743a5f1057e727e6c11c91031954b9b5aa982239f4", func := "portreeve/portreevelaw11.CapShows", spec := "capShows", apart := false }
def CapShowsSaid : Prop := capShowsRow.holds Try.pinned (OpenSpec.ofChange capShowsSpec)

/-- ITS FALSE NEIGHBOUR: 'it returns false'. Refute it at one input. -/
def capShowsWrong : ChangeSpec := { name := "capShows", fn := fun _ => fun
  | [d] => { results := [.lit (.bool false)], args := [d] }
  | _ => none }
def CapShowsWrongFalsely : Prop := capShowsRow.holds Try.pinned (OpenSpec.ofChange capShowsWrong)

/-- 'portreevelaw16.ObjNames': WHATEVER THE INPUT: true; the input reads as it did. -/
def objNamesSpec : ChangeSpec := { name := "objNames", fn := fun _ => fun
  | [d1, d2] => { results := [.lit (.bool true)], args := [d1, d2] }
  | _ => none }
def objNamesRow : OpenClaim := { program := "ytloeihhocifnpaa", sum := "015b1cd46fc360bb9bbe23743a5f1057e727e6c11c91031954b9b5aa982239f4", func := "portreeve/portreevelaw16.ObjNames", spec := "objNames", apart := false }
def ObjNamesSaid : Prop := objNamesRow.holds Try.pinned (OpenSpec.ofChange objNamesSpec)

/-- ITS FALSE NEIGHBOUR: 'it returns false'. Refute it at one input. -/
def objNamesWrong : ChangeSpec := { name := "objNames", fn := fun _ => fun
  | [d1, d2] => { results := [.lit (.bool false)], args := [d1, d2] }
  | _ => none }
def ObjNamesWrongFalsely : Prop := objNamesRow.holds Try.pinned (OpenSpec.ofChange objNamesWrong)

/-- 'portreevelaw16.ObjPlaces': WHATEVER THE INPUT: true; the input reads as it did. -/
def objPlacesSpec : ChangeSpec := { name := "objPlaces", fn := fun _ => fun
  | [d1, d2, d3] => { results := [.lit (.bool true)], args := [d1, d2, d3] }
  | _ => none }
def objPlacesRow : OpenClaim := { program := "ytloeihhocifnpaa", sum := "015b1cd46fc360bb9bbe23743a5f1057e727e6c11c91031954b9b5aa982239f4", func := "portreeve/portreevelaw16.ObjPlaces", spec := "objPlaces", apart := false }
def ObjPlacesSaid : Prop := objPlacesRow.holds Try.pinned (OpenSpec.ofChange objPlacesSpec)

/-- ITS FALSE NEIGHBOUR: 'it returns false'. Refute it at one input. -/
def objPlacesWrong : ChangeSpec := { name := "objPlaces", fn := fun _ => fun
  | [d1, d2, d3] => { results := [.lit (.bool false)], args := [d1, d2, d3] }
  | _ => none }
def ObjPlacesWrongFalsely : Prop := objPlacesRow.holds Try.pinned (OpenSpec.ofChange objPlacesWrong)

/- THE SECOND FORM. 'bulk': how many values and letters a reading holds, each counted each time it is reached (what is shared counts as often as it is met; a slice's spare places count too). A statement '..UptoSaid' is the law's where the arguments, and the package variables that the reading takes, are together of bulk at most 1048576: NARROWER than '..Said'. Prove '..Said' where nothing that the law and all that it calls make is longer than what came in: it says more and counts as full. Else prove '..UptoSaid'. A law counts once. -/
mutual
def uptoBulk {H : Type} : DataW H → Nat
  | .lit (.string bytes) => bytes.length + 1
  | .lit _ => 1
  | .nil => 1
  | .ptr d => uptoBulk d + 1
  | .slice elems spare => uptoBulkAll elems + uptoBulkAll spare + 1
  | .agg parts => uptoBulkAll parts + 1
  | .iface _ d => uptoBulk d + 1
  | .map entries => uptoBulkEntries entries + 1
  | .held _ => 1
def uptoBulkAll {H : Type} : List (DataW H) → Nat
  | [] => 0
  | d :: r => uptoBulk d + uptoBulkAll r
def uptoBulkEntries {H : Type} : List (Lit × DataW H) → Nat
  | [] => 0
  | x :: r => uptoBulkEntry x + uptoBulkEntries r
def uptoBulkEntry {H : Type} : Lit × DataW H → Nat
  | (.string bytes, d) => bytes.length + uptoBulk d + 1
  | (_, d) => uptoBulk d + 1
 end
def uptoSmall : (H : Type) → List (DataW H) → Bool := fun _ ds => decide (uptoBulkAll ds ≤ 1048576)
def OpenSpec.upto (s : _root_.Go.ChangeSpec) : _root_.Go.OpenSpec := { _root_.Go.OpenSpec.ofChange s with cond := some uptoSmall }

/-- 'portreevelaw11.CapWords', WHERE WHAT IT READS IS OF BULK AT MOST 1048576: true; the input reads as it did. -/
def capWordsUptoRow : OpenClaim := { program := "ytloeihhocifnpaa", sum := "015b1cd46fc360bb9bbe23743a5f1057e727e6c11c91031954b9b5aa982239f4", func := "portreeve/portreevelaw11.CapWords", spec := "capWords", apart := false, narrowed := true }
def CapWordsUptoSaid : Prop := capWordsUptoRow.holds Try.pinned (OpenSpec.upto capWordsSpec)

/-- 'portreevelaw11.CapReads', WHERE WHAT IT READS IS OF BULK AT MOST 1048576: true; the input reads as it did. -/
def capReadsUptoRow : OpenClaim := { program := "ytloeihhocifnpaa", sum := "015b1cd46fc360bb9bbe23743a5f1057e727e6c11c91031954b9b5aa982239f4", func := "portreeve/portreevelaw11.CapReads", spec := "capReads", apart := false, narrowed := true }
def CapReadsUptoSaid : Prop := capReadsUptoRow.holds Try.pinned (OpenSpec.upto capReadsSpec)

/-- 'portreevelaw11.CapNames', WHERE WHAT IT READS IS OF BULK AT MOST 1048576: true; the input reads as it did. -/
def capNamesUptoRow : OpenClaim := { program := "ytloeihhocifnpaa", sum := "015b1cd46fc360bb9bbe23743a5f1057e727e6c11c91031954b9b5aa982239f4", func := "portreeve/portreevelaw11.CapNames", spec := "capNames", apart := false, narrowed := true }
def CapNamesUptoSaid : Prop := capNamesUptoRow.holds Try.pinned (OpenSpec.upto capNamesSpec)

/-- 'portreevelaw16.ObjBytes', WHERE WHAT IT READS IS OF BULK AT MOST 1048576: true; the input reads as it did. -/
def objBytesUptoRow : OpenClaim := { program := "ytloeihhocifnpaa", sum := "015b1cd46fc360bb9bbe23743a5f1057e727e6c11c91031954b9b5aa982239f4", func := "portreeve/portreevelaw16.ObjBytes", spec := "objBytes", apart := false, narrowed := true }
def ObjBytesUptoSaid : Prop := objBytesUptoRow.holds Try.pinned (OpenSpec.upto objBytesSpec)

/-- 'portreevelaw11.CapCovers', WHERE WHAT IT READS IS OF BULK AT MOST 1048576: true; the input reads as it did. -/
def capCoversUptoRow : OpenClaim := { program := "ytloeihhocifnpaa", sum := "015b1cd46fc360bb9bbe23743a5f1057e727e6c11c91031954b9b5aa982239f4", func := "portreeve/portreevelaw11.CapCovers", spec := "capCovers", apart := false, narrowed := true }
def CapCoversUptoSaid : Prop := capCoversUptoRow.holds Try.pinned (OpenSpec.upto capCoversSpec)

/-- 'portreevelaw11.CapSizes', WHERE WHAT IT READS IS OF BULK AT MOST 1048576: true; the input reads as it did. -/
def capSizesUptoRow : OpenClaim := { program := "ytloeihhocifnpaa", sum := "015b1cd46fc360bb9bbe23743a5f1057e727e6c11c91031954b9b5aa982239f4", func := "portreeve/portreevelaw11.CapSizes", spec := "capSizes", apart := false, narrowed := true }
def CapSizesUptoSaid : Prop := capSizesUptoRow.holds Try.pinned (OpenSpec.upto capSizesSpec)

/-- 'portreevelaw11.CapObjects', WHERE WHAT IT READS IS OF BULK AT MOST 1048576: true; the input reads as it did. -/
def capObjectsUptoRow : OpenClaim := { program := "ytloeihhocifnpaa", sum := "015b1cd46fc360bb9bbe23743a5f1057e727e6c11c91031954b9b5aa982239f4", func := "portreeve/portreevelaw11.CapObjects", spec := "capObjects", apart := false, narrowed := true }
def CapObjectsUptoSaid : Prop := capObjectsUptoRow.holds Try.pinned (OpenSpec.upto capObjectsSpec)

/-- 'portreevelaw16.ObjFresh', WHERE WHAT IT READS IS OF BULK AT MOST 1048576: true; the input reads as it did. -/
def objFreshUptoRow : OpenClaim := { program := "ytloeihhocifnpaa", sum := "015b1cd46fc360bb9bbe23743a5f1057e727e6c11c91031954b9b5aa982239f4", func := "portreeve/portreevelaw16.ObjFresh", spec := "objFresh", apart := false, narrowed := true }
def ObjFreshUptoSaid : Prop := objFreshUptoRow.holds Try.pinned (OpenSpec.upto objFreshSpec)

/-- 'portreevelaw11.CapShows', WHERE WHAT IT READS IS OF BULK AT MOST 1048576: true; the input reads as it did. -/
def capShowsUptoRow : OpenClaim := { program := "ytloeihhocifnpaa", sum := "015b1cd46fc360bb9bbe23743a5f1057e727e6c11c91031954b9b5aa982239f4", func := "portreeve/portreevelaw11.CapShows", spec := "capShows", apart := false, narrowed := true }
def CapShowsUptoSaid : Prop := capShowsUptoRow.holds Try.pinned (OpenSpec.upto capShowsSpec)

/-- 'portreevelaw16.ObjNames', WHERE WHAT IT READS IS OF BULK AT MOST 1048576: true; the input reads as it did. -/
def objNamesUptoRow : OpenClaim := { program := "ytloeihhocifnpaa", sum := "015b1cd46fc360bb9bbe23743a5f1057e727e6c11c91031954b9b5aa982239f4", func := "portreeve/portreevelaw16.ObjNames", spec := "objNames", apart := false, narrowed := true }
def ObjNamesUptoSaid : Prop := objNamesUptoRow.holds Try.pinned (OpenSpec.upto objNamesSpec)

/-- 'portreevelaw16.ObjPlaces', WHERE WHAT IT READS IS OF BULK AT MOST 1048576: true; the input reads as it did. -/
def objPlacesUptoRow : OpenClaim := { program := "ytloeihhocifnpaa", sum := "015b1cd46fc360bb9bbe23743a5f1057e727e6c11c91031954b9b5aa982239f4", func := "portreeve/portreevelaw16.ObjPlaces", spec := "objPlaces", apart := false, narrowed := true }
def ObjPlacesUptoSaid : Prop := objPlacesUptoRow.holds Try.pinned (OpenSpec.upto objPlacesSpec)

end Rows
end Go.Proofs.Ytloeihhocifnpaa
