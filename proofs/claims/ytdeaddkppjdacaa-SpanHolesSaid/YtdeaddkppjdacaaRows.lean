/-
  No cell of these rows narrows 'for every input' (looked for: loops, veiled, ifaces, maps, wideKeys, modest, calm, conditions, laid).
  DERIVED. THE GIVEN ROWS OF THIS SEAT. 6 by the template 'for every input the law returns true; each argument reads behind the call as it read before'; 0 by the template 'total and deterministic' (their statements: YtdeaddkppjdacaaTotals.lean).
  GIVEN WITH THE SEED: the statements are not yours to turn. If you find one false, say at which input.
  Laid BY PROGRAM, IN A SANDBOX (cutbox-rows.mjs): the forced cells as the released guide's own fill.sh prints them over the translation af22b28351a16407… (all of the seat's roots in one cut). By AI agents, Wed Nov 11 2026. No macro, syntax, notation, axiom, sorry.
-/
import Derived.Test.YtdeaddkppjdacaaChecked
import GoSem.Claim
import GoSem.ClaimJoined
import GoSem.ClaimMapViews
import Derived.JoinedTies
import Derived.KernelRfl
namespace Go.Proofs.Ytdeaddkppjdacaa
/- THE CELL 'sum', in the pinned program and in every row, IS THE sha256 OF THE DUMP (.gsa) THAT YtdeaddkppjdacaaProg.lean LOADS. Nothing in Lean hashes anything: it is a label: what it is worth is what the hold of that sum in a sandbox is worth. -/
noncomputable def Try.pinned : Pinned := { name := "ytdeaddkppjdacaa", sum := "af22b28351a16407e726e1679ed44f80b2dfc5783ea7333ff327d17621bac234", checked := Try.checked }
namespace Rows
def none {H : Type} : Left H := { results := [], args := [] }

/-- 'portreevelaw17.SpanSorts': WHATEVER THE INPUT: true; the input reads as it did. -/
def spanSortsSpec : ChangeSpec := { name := "spanSorts", fn := fun _ => fun
  | [d] => { results := [.lit (.bool true)], args := [d] }
  | _ => none }
def spanSortsRow : OpenClaim := { program := "ytdeaddkppjdacaa", sum := "af22b28351a16407e726e1679ed44f80b2dfc5783ea7333ff327d17621bac234", func := "portreeve/portreevelaw17.SpanSorts", spec := "spanSorts", unfollowed := true, recurses := true, apart := false }
def SpanSortsSaid : Prop := spanSortsRow.holds Try.pinned (OpenSpec.ofChange spanSortsSpec)

/-- ITS FALSE NEIGHBOUR: 'it returns false'. Refute it at one input. -/
def spanSortsWrong : ChangeSpec := { name := "spanSorts", fn := fun _ => fun
  | [d] => { results := [.lit (.bool false)], args := [d] }
  | _ => none }
def SpanSortsWrongFalsely : Prop := spanSortsRow.holds Try.pinned (OpenSpec.ofChange spanSortsWrong)

/-- 'portreevelaw17.SpanPairs': WHATEVER THE INPUT: true; the input reads as it did. -/
def spanPairsSpec : ChangeSpec := { name := "spanPairs", fn := fun _ => fun
  | [d1, d2, d3] => { results := [.lit (.bool true)], args := [d1, d2, d3] }
  | _ => none }
def spanPairsRow : OpenClaim := { program := "ytdeaddkppjdacaa", sum := "af22b28351a16407e726e1679ed44f80b2dfc5783ea7333ff327d17621bac234", func := "portreeve/portreevelaw17.SpanPairs", spec := "spanPairs", unfollowed := true, recurses := true, apart := false }
def SpanPairsSaid : Prop := spanPairsRow.holds Try.pinned (OpenSpec.ofChange spanPairsSpec)

/-- ITS FALSE NEIGHBOUR: 'it returns false'. Refute it at one input. -/
def spanPairsWrong : ChangeSpec := { name := "spanPairs", fn := fun _ => fun
  | [d1, d2, d3] => { results := [.lit (.bool false)], args := [d1, d2, d3] }
  | _ => none }
def SpanPairsWrongFalsely : Prop := spanPairsRow.holds Try.pinned (OpenSpec.ofChange spanPairsWrong)

/-- 'portreevelaw17.SpanTidies': WHATEVER THE INPUT: true; the input reads as it did. -/
def spanTidiesSpec : ChangeSpec := { name := "spanTidies", fn := fun _ => fun
  | [d] => { results := [.lit (.bool true)], args := [d] }
  | _ => none }
def spanTidiesRow : OpenClaim := { program := "ytdeaddkppjdacaa", sum := "af22b28351a16407e726e1679ed44f80b2dfc5783ea7333ff327d17621bac234", func := "portreeve/portreevelaw17.SpanTidies", spec := "spanTidies", unfollowed := true, recurses := true, apart := false }
def SpanTidiesSaid : Prop := spanTidiesRow.holds Try.pinned (OpenSpec.ofChange spanTidiesSpec)

/-- ITS FALSE NEIGHBOUR: 'it returns false'. Refute it at one input. -/
def spanTidiesWrong : ChangeSpec := { name := "spanTidies", fn := fun _ => fun
  | [d] => { results := [.lit (.bool false)], args := [d] }
  | _ => none }
def SpanTidiesWrongFalsely : Prop := spanTidiesRow.holds Try.pinned (OpenSpec.ofChange spanTidiesWrong)

/-- 'portreevelaw17.SpanUnions': WHATEVER THE INPUT: true; the input reads as it did. -/
def spanUnionsSpec : ChangeSpec := { name := "spanUnions", fn := fun _ => fun
  | [d1, d2] => { results := [.lit (.bool true)], args := [d1, d2] }
  | _ => none }
def spanUnionsRow : OpenClaim := { program := "ytdeaddkppjdacaa", sum := "af22b28351a16407e726e1679ed44f80b2dfc5783ea7333ff327d17621bac234", func := "portreeve/portreevelaw17.SpanUnions", spec := "spanUnions", unfollowed := true, recurses := true, apart := false }
def SpanUnionsSaid : Prop := spanUnionsRow.holds Try.pinned (OpenSpec.ofChange spanUnionsSpec)

/-- ITS FALSE NEIGHBOUR: 'it returns false'. Refute it at one input. -/
def spanUnionsWrong : ChangeSpec := { name := "spanUnions", fn := fun _ => fun
  | [d1, d2] => { results := [.lit (.bool false)], args := [d1, d2] }
  | _ => none }
def SpanUnionsWrongFalsely : Prop := spanUnionsRow.holds Try.pinned (OpenSpec.ofChange spanUnionsWrong)

/-- 'portreevelaw17.SpanHoles': WHATEVER THE INPUT: true; the input reads as it did. -/
def spanHolesSpec : ChangeSpec := { name := "spanHoles", fn := fun _ => fun
  | [d1, d2] => { results := [.lit (.bool true)], args := [d1, d2] }
  | _ => none }
def spanHolesRow : OpenClaim := { program := "ytdeaddkppjdacaa", sum := "af22b28351a16407e726e1679ed44f80b2dfc5783ea7333ff327d17621bac234", func := "portreeve/portreevelaw17.SpanHoles", spec := "spanHoles", unfollowed := true, recurses := true, apart := false }
def SpanHolesSaid : Prop := spanHolesRow.holds Try.pinned (OpenSpec.ofChange spanHolesSpec)

/-- ITS FALSE NEIGHBOUR: 'it returns false'. Refute it at one input. -/
def spanHolesWrong : ChangeSpec := { name := "spanHoles", fn := fun _ => fun
  | [d1, d2] => { results := [.lit (.bool false)], args := [d1, d2] }
  | _ => none }
def SpanHolesWrongFalsely : Prop := spanHolesRow.holds Try.pinned (OpenSpec.ofChange spanHolesWrong)

/-- 'portreevelaw17.SpanCuts': WHATEVER THE INPUT: true; the input reads as it did. -/
def spanCutsSpec : ChangeSpec := { name := "spanCuts", fn := fun _ => fun
  | [d1, d2, d3] => { results := [.lit (.bool true)], args := [d1, d2, d3] }
  | _ => none }
def spanCutsRow : OpenClaim := { program := "ytdeaddkppjdacaa", sum := "af22b28351a16407e726e1679ed44f80b2dfc5783ea7333ff327d17621bac234", func := "portreeve/portreevelaw17.SpanCuts", spec := "spanCuts", unfollowed := true, recurses := true, apart := false }
def SpanCutsSaid : Prop := spanCutsRow.holds Try.pinned (OpenSpec.ofChange spanCutsSpec)

/-- ITS FALSE NEIGHBOUR: 'it returns false'. Refute it at one input. -/
def spanCutsWrong : ChangeSpec := { name := "spanCuts", fn := fun _ => fun
  | [d1, d2, d3] => { results := [.lit (.bool false)], args := [d1, d2, d3] }
  | _ => none }
def SpanCutsWrongFalsely : Prop := spanCutsRow.holds Try.pinned (OpenSpec.ofChange spanCutsWrong)

/- THE SECOND FORM. 'bulk': how many values and letters a reading holds, each counted each time it is reached (what is shared counts as often as it is met; a slice's spare places count too). A statement '..UptoSaid' is the law's where the arguments, and the package variables that the reading takes, are together of bulk at most 1048576: NARROWER than '..Said'. Prove '..Said' where nothing that the law and all that it calls make is longer than what came in: it says more and counts as full. Else prove '..UptoSaid'. A law counts once. -/
mutual
def uptoBulk {H : Type} : DataW H → Nat
  | .lit (.string bytes) => bytes.length + 1
  | .lit _ => 1
  | .nil => 1
  | .ptr d => uptoBulk d + 1
  | .slice elems spare => uptoBulkAll elems + uptoBulkAll spare + 1
  | .agg parts => uptoBulkAll parts + 1
  | .iface _ d => uptoBulk d + 1
  | .map entries => uptoBulkEntries entries + 1
  | .held _ => 1
def uptoBulkAll {H : Type} : List (DataW H) → Nat
  | [] => 0
  | d :: r => uptoBulk d + uptoBulkAll r
def uptoBulkEntries {H : Type} : List (Lit × DataW H) → Nat
  | [] => 0
  | x :: r => uptoBulkEntry x + uptoBulkEntries r
def uptoBulkEntry {H : Type} : Lit × DataW H → Nat
  | (.string bytes, d) => bytes.length + uptoBulk d + 1
  | (_, d) => uptoBulk d + 1
 end
def uptoSmall : (H : Type) → List (DataW H) → Bool := fun _ ds => decide (uptoBulkAll ds ≤ 1048576)
def OpenSpec.upto (s : _root_.Go.ChangeSpec) : _root_.Go.OpenSpec := { _root_.Go.OpenSpec.ofChange s with cond := some uptoSmall }

/-- 'portreevelaw17.SpanSorts', WHERE WHAT IT READS IS OF BULK AT MOST 1048576: true; the input reads as it did. -/
def spanSortsUptoRow : OpenClaim := { program := "ytdeaddkppjdacaa", sum := "af22b28351a16407e726e1679ed44f80b2dfc5783ea7333ff327d17621bac234", func := "portreeve/portreevelaw17.SpanSorts", spec := "spanSorts", unfollowed := true, recurses := true, apart := false, narrowed := true }
def SpanSortsUptoSaid : Prop := spanSortsUptoRow.holds Try.pinned (OpenSpec.upto spanSortsSpec)

/-- 'portreevelaw17.SpanPairs', WHERE WHAT IT READS IS OF BULK AT MOST 1048576: true; the input reads as it did. -/
def spanPairsUptoRow : OpenClaim := { program := "ytdeaddkppjdacaa", sum := "af22b28351a16407e726e1679ed44f80b2dfc5783ea7333ff327d17621bac234", func := "portreeve/portreevelaw17.SpanPairs", spec := "spanPairs", unfollowed := true, recurses := true, apart := false, narrowed := true }
def SpanPairsUptoSaid : Prop := spanPairsUptoRow.holds Try.pinned (OpenSpec.upto spanPairsSpec)

/-- 'portreevelaw17.SpanTidies', WHERE WHAT IT READS IS OF BULK AT MOST 1048576: true; the input reads as it did. -/
def spanTidiesUptoRow : OpenClaim := { program := "ytdeaddkppjdacaa", sum := "af22b28351a16407e726e1679ed44f80b2dfc5783ea7333ff327d17621bac234", func := "portreeve/portreevelaw17.SpanTidies", spec := "spanTidies", unfollowed := true, recurses := true, apart := false, narrowed := true }
def SpanTidiesUptoSaid : Prop := spanTidiesUptoRow.holds Try.pinned (OpenSpec.upto spanTidiesSpec)

/-- 'portreevelaw17.SpanUnions', WHERE WHAT IT READS IS OF BULK AT MOST 1048576: true; the input reads as it did. -/
def spanUnionsUptoRow : OpenClaim := { program := "ytdeaddkppjdacaa", sum := "af22b28351a16407e726e1679ed44f80b2dfc5783ea7333ff327d17621bac234", func := "portreeve/portreevelaw17.SpanUnions", spec := "spanUnions", unfollowed := true, recurses := true, apart := false, narrowed := true }
def SpanUnionsUptoSaid : Prop := spanUnionsUptoRow.holds Try.pinned (OpenSpec.upto spanUnionsSpec)

/-- 'portreevelaw17.SpanHoles', WHERE WHAT IT READS IS OF BULK AT MOST 1048576: true; the input reads as it did. -/
def spanHolesUptoRow : OpenClaim := { program := "ytdeaddkppjdacaa", sum := "af22b28351a16407e726e1679ed44f80b2dfc5783ea7333ff327d17621bac234", func := "portreeve/portreevelaw17.SpanHoles", spec := "spanHoles", unfollowed := true, recurses := true, apart := false, narrowed := true }
def SpanHolesUptoSaid : Prop := spanHolesUptoRow.holds Try.pinned (OpenSpec.upto spanHolesSpec)

/-- 'portreevelaw17.SpanCuts', WHERE WHAT IT READS IS OF BULK AT MOST 1048576: true; the input reads as it did. -/
def spanCutsUptoRow : OpenClaim := { program := "ytdeaddkppjdacaa", sum := "af22b28351a16407e726e1679ed44f80b2dfc5783ea7333ff327d17621bac234", func := "portreeve/portreevelaw17.SpanCuts", spec := "spanCuts", unfollowed := true, recurses := true, apart := false, narrowed := true }
def SpanCutsUptoSaid : Prop := spanCutsUptoRow.holds Try.pinned (OpenSpec.upto spanCutsSpec)

end Rows
end Go.Proofs.Ytdeaddkppjdacaa
