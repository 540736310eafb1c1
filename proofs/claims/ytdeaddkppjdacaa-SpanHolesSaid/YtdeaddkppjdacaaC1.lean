/- Contracts of the functions of this seat, each by the executor and the kernel; part 1. Their conditions stand in each. -/
import Derived.Test.YtdeaddkppjdacaaTx3
import Derived.Test.YtdeaddkppjdacaaProg
set_option linter.unusedVariables false
set_option linter.unusedSimpArgs false
namespace Go.Sx.S
open Go Go.Sx Go.Proofs Go.RowKit
def th : Theory := { R := Empty, holds := (fun r => nomatch r), keep := (fun {r} => nomatch r), merge := (fun _ a => nomatch a), merge_spec := (fun {_ a} => nomatch a) }
end Go.Sx.S

namespace Go.Sx.S
open Go Go.Sx Go.Proofs Go.RowKit
def us11 : List Un := []
def f11_0 (f : Int) (t : Int) : Bool := decide (f < t)
def f11 : List SV → Option (Tr SV)
  | [.agg [.int .u64 f, .int .u64 t]] => some (Tr.leaf (SV.bool (f11_0 f t)))
  | _ => none
theorem s11 : Sound Try.prog th 11 (pureC f11) := pure_auto (us := us11) (nice := ([] : List (Nat × CF th.R))) trivial 20 fun args t h => by
  unfold f11 at h
  split at h
  · cases h; kernel_rfl
  · cases h
noncomputable def nice11 : List (Nat × CF th.R) := (11, pureC f11) :: ([] : List (Nat × CF th.R))
theorem nok11 : NiceOk Try.prog th nice11 := ⟨s11, trivial⟩
end Go.Sx.S

namespace Go.Sx.S
open Go Go.Sx Go.Proofs Go.RowKit
def us12 : List Un := []
def f12_0 (f : Int) (t : Int) : Bool := cnd (decide (f ≥ f)) (decide (f < t)) false
def f12 : List SV → Option (Tr SV)
  | [.agg [.int .u64 f, .int .u64 t]] => some (Tr.leaf (SV.bool (f12_0 f t)))
  | _ => none
theorem s12 : Sound Try.prog th 12 (pureC f12) := pure_auto (us := us12) (nice := nice11) nok11 20 fun args t h => by
  unfold f12 at h
  split at h
  · cases h; kernel_rfl
  · cases h
noncomputable def nice12 : List (Nat × CF th.R) := (12, pureC f12) :: nice11
theorem nok12 : NiceOk Try.prog th nice12 := ⟨s12, nok11⟩
end Go.Sx.S

namespace Go.Sx.S
open Go Go.Sx Go.Proofs Go.RowKit
def us17 : List Un := []
def f17_0 (f : Int) (t : Int) (a : Int) : Bool := cnd (decide (f ≤ a)) (decide (a < t)) false
def f17 : List SV → Option (Tr SV)
  | [.agg [.int .u64 f, .int .u64 t], .int .u64 a] => some (Tr.leaf (SV.bool (f17_0 f t a)))
  | _ => none
theorem s17 : Sound Try.prog th 17 (pureC f17) := pure_auto (us := us17) (nice := nice12) nok12 20 fun args t h => by
  unfold f17 at h
  split at h
  · cases h; kernel_rfl
  · cases h
noncomputable def nice17 : List (Nat × CF th.R) := (17, pureC f17) :: nice12
theorem nok17 : NiceOk Try.prog th nice17 := ⟨s17, nok12⟩
end Go.Sx.S

namespace Go.Sx.S
open Go Go.Sx Go.Proofs Go.RowKit
def us18 : List Un := []
def f18_0 (f : Int) (t : Int) (a : Int) : Bool := cnd (decide (a ≥ f)) (decide (a < t)) false
def f18 : List SV → Option (Tr SV)
  | [.agg [.int .u64 f, .int .u64 t], .int .u64 a] => some (Tr.leaf (SV.bool (f18_0 f t a)))
  | _ => none
theorem s18 : Sound Try.prog th 18 (pureC f18) := pure_auto (us := us18) (nice := nice17) nok17 20 fun args t h => by
  unfold f18 at h
  split at h
  · cases h; kernel_rfl
  · cases h
noncomputable def nice18 : List (Nat × CF th.R) := (18, pureC f18) :: nice17
theorem nok18 : NiceOk Try.prog th nice18 := ⟨s18, nok17⟩
end Go.Sx.S

namespace Go.Sx.S
open Go Go.Sx Go.Proofs Go.RowKit
def us13 : List Un := []
def f13_0 (f : Int) (t : Int) (f2 : Int) (t2 : Int) : Bool := cnd (cnd (cnd (f11_0 f t) (f11_0 f2 t2) false) (decide (f < t2)) false) (decide (f2 < t)) false
def f13 : List SV → Option (Tr SV)
  | [.agg [.int .u64 f, .int .u64 t], .agg [.int .u64 f2, .int .u64 t2]] => some (Tr.leaf (SV.bool (f13_0 f t f2 t2)))
  | _ => none
theorem s13 : Sound Try.prog th 13 (pureC f13) := pure_auto (us := us13) (nice := nice18) nok18 20 fun args t h => by
  unfold f13 at h
  split at h
  · cases h; kernel_rfl
  · cases h
noncomputable def nice13 : List (Nat × CF th.R) := (13, pureC f13) :: nice18
theorem nok13 : NiceOk Try.prog th nice13 := ⟨s13, nok18⟩
end Go.Sx.S

namespace Go.Sx.S
open Go Go.Sx Go.Proofs Go.RowKit
def us14 : List Un := []
def f14_0 (f : Int) (t : Int) (f2 : Int) (t2 : Int) : Bool := cnd (cnd (!f12_0 f t) true !f12_0 f2 t2) false (cnd (decide (f > f2)) (f18_0 f2 t2 f) (f18_0 f t f2))
def f14 : List SV → Option (Tr SV)
  | [.agg [.int .u64 f, .int .u64 t], .agg [.int .u64 f2, .int .u64 t2]] => some (Tr.leaf (SV.bool (f14_0 f t f2 t2)))
  | _ => none
theorem s14 : Sound Try.prog th 14 (pureC f14) := pure_auto (us := us14) (nice := nice13) nok13 20 fun args t h => by
  unfold f14 at h
  split at h
  · cases h; kernel_rfl
  · cases h
noncomputable def nice14 : List (Nat × CF th.R) := (14, pureC f14) :: nice13
theorem nok14 : NiceOk Try.prog th nice14 := ⟨s14, nok13⟩
end Go.Sx.S

namespace Go.Sx.S
open Go Go.Sx Go.Proofs Go.RowKit
def us15 : List Un := []
def f15_0 (f : Int) (t : Int) (f2 : Int) (t2 : Int) : Bool := cnd (cnd (cnd (f11_0 f t) (f11_0 f2 t2) false) (decide (f2 ≤ f)) false) (decide (t ≤ t2)) false
def f15 : List SV → Option (Tr SV)
  | [.agg [.int .u64 f, .int .u64 t], .agg [.int .u64 f2, .int .u64 t2]] => some (Tr.leaf (SV.bool (f15_0 f t f2 t2)))
  | _ => none
theorem s15 : Sound Try.prog th 15 (pureC f15) := pure_auto (us := us15) (nice := nice14) nok14 20 fun args t h => by
  unfold f15 at h
  split at h
  · cases h; kernel_rfl
  · cases h
noncomputable def nice15 : List (Nat × CF th.R) := (15, pureC f15) :: nice14
theorem nok15 : NiceOk Try.prog th nice15 := ⟨s15, nok14⟩
end Go.Sx.S

namespace Go.Sx.S
open Go Go.Sx Go.Proofs Go.RowKit
def us16 : List Un := []
def f16_0 (f : Int) (t : Int) (f2 : Int) (t2 : Int) : Bool := cnd (cnd (cnd (f12_0 f t) (f12_0 f2 t2) false) (f18_0 f2 t2 f) false) (f18_0 f2 t2 (IntKind.u64.wrap (t - (1 : Int)))) false
def f16 : List SV → Option (Tr SV)
  | [.agg [.int .u64 f, .int .u64 t], .agg [.int .u64 f2, .int .u64 t2]] => some (Tr.leaf (SV.bool (f16_0 f t f2 t2)))
  | _ => none
theorem s16 : Sound Try.prog th 16 (pureC f16) := pure_auto (us := us16) (nice := nice15) nok15 20 fun args t h => by
  unfold f16 at h
  split at h
  · cases h; kernel_rfl
  · cases h
noncomputable def nice16 : List (Nat × CF th.R) := (16, pureC f16) :: nice15
theorem nok16 : NiceOk Try.prog th nice16 := ⟨s16, nok15⟩
end Go.Sx.S

namespace Go.Sx.S
open Go Go.Sx Go.Proofs Go.RowKit
def us40 : List Un := []
def f40_0 (x : Int) : Bool := x != x
def f40 : List SV → Option (Tr SV)
  | [.int .u64 x] => some (Tr.leaf (SV.bool (f40_0 x)))
  | _ => none
theorem s40 : Sound Try.prog th 40 (pureC f40) := pure_auto (us := us40) (nice := nice16) nok16 20 fun args t h => by
  unfold f40 at h
  split at h
  · cases h; kernel_rfl
  · cases h
noncomputable def nice40 : List (Nat × CF th.R) := (40, pureC f40) :: nice16
theorem nok40 : NiceOk Try.prog th nice40 := ⟨s40, nok16⟩
end Go.Sx.S

namespace Go.Sx.S
open Go Go.Sx Go.Proofs Go.RowKit
def us35 : List Un := []
def f35_0 (x : Int) (y : Int) : Int := cnd (cnd (f40_0 x) (f40_0 y) false) (0 : Int) (cnd (f40_0 x) (-1 : Int) (cnd (f40_0 y) (1 : Int) (cnd (decide (x < y)) (-1 : Int) (cnd (decide (x > y)) (1 : Int) (0 : Int)))))
def f35 : List SV → Option (Tr SV)
  | [.int .u64 x, .int .u64 y] => some (Tr.leaf (SV.int (IntKind.i64) (f35_0 x y)))
  | _ => none
theorem s35 : Sound Try.prog th 35 (pureC f35) := pure_auto (us := us35) (nice := nice40) nok40 20 fun args t h => by
  unfold f35 at h
  split at h
  · cases h; kernel_rfl
  · cases h
noncomputable def nice35 : List (Nat × CF th.R) := (35, pureC f35) :: nice40
theorem nok35 : NiceOk Try.prog th nice35 := ⟨s35, nok40⟩
end Go.Sx.S

namespace Go.Sx.S
open Go Go.Sx Go.Proofs Go.RowKit
def us33 : List Un := [⟨34, [(3, 3)], [9]⟩]
def f33_0 (f : Int) (t : Int) (f2 : Int) (t2 : Int) : Prop := true = true → (∀ (i : Nat), scpL (0:Nat) (rowEl (2 : Nat) (nat_lit 0 + (1 : Nat)) (setMany (setMany (List.map (fun i => [SV.int IntKind.i64 (0 : Int)].getD (i % (1 : Nat)) Inhabited.default) (List.range ((2 : Nat) * (nat_lit 0 + (1 : Nat))))) ((0:Nat) * (nat_lit 0 + (1 : Nat))) (SV.int IntKind.i64 (f35_0 f f2)).cells) ((1 : Nat) * (nat_lit 0 + (1 : Nat))) (SV.int IntKind.i64 (f35_0 t2 t)).cells) i) = true) ∧ ((0 : Int) ≤ (0 : Int) ∧ (0 : Int) < (2 : Int)) ∧ (0:Nat) + Int.toNat (0 : Int) < (2 : Nat) ∧ (([f35_0 f f2, f35_0 t2 t].getD ((0:Nat) + Int.toNat (0 : Int)) (0 : Int) != (0 : Int)) = false → (0 : Int) ≤ (1 : Int) ∧ (1 : Int) < (2 : Int)) ∧ (([f35_0 f f2, f35_0 t2 t].getD ((0:Nat) + Int.toNat (0 : Int)) (0 : Int) != (0 : Int)) = false → (0:Nat) + Int.toNat (1 : Int) < (2 : Nat)) ∧ ∀ (i : Nat), scpL (0:Nat) (rowEl (2 : Nat) (nat_lit 0 + (1 : Nat)) (setMany (setMany (List.map (fun i => [SV.int IntKind.i64 (0 : Int)].getD (i % (1 : Nat)) Inhabited.default) (List.range ((2 : Nat) * (nat_lit 0 + (1 : Nat))))) ((0:Nat) * (nat_lit 0 + (1 : Nat))) (SV.int IntKind.i64 (f35_0 f f2)).cells) ((1 : Nat) * (nat_lit 0 + (1 : Nat))) (SV.int IntKind.i64 (f35_0 t2 t)).cells) i) = true
def f33_1 (f : Int) (t : Int) (f2 : Int) (t2 : Int) : Int := cnd ([f35_0 f f2, f35_0 t2 t].getD ((0:Nat) + Int.toNat (0 : Int)) (0 : Int) != (0 : Int)) ([f35_0 f f2, f35_0 t2 t].getD ((0:Nat) + Int.toNat (0 : Int)) (0 : Int)) (cnd ([f35_0 f f2, f35_0 t2 t].getD ((0:Nat) + Int.toNat (1 : Int)) (0 : Int) != (0 : Int)) ([f35_0 f f2, f35_0 t2 t].getD ((0:Nat) + Int.toNat (1 : Int)) (0 : Int)) (0 : Int))
theorem n33_0 (f : Int) (t : Int) (f2 : Int) (t2 : Int) : f33_0 f t f2 t2 := by
  unfold f33_0
  (repeat' first
    | apply And.intro
    | intro _
    | apply scpL_rowSet)
  all_goals first
    | exact scpL_rowEl (by kernel_rfl) _
    | exact scpL_chunk (by kernel_rfl)
    | rfl
    | omega
    | decide
    | decide +kernel
def f33 : List SV → Option (Tr SV)
  | [.agg [.int .u64 f, .int .u64 t], .agg [.int .u64 f2, .int .u64 t2]] => some (Tr.leaf (SV.int (IntKind.i64) (f33_1 f t f2 t2)))
  | _ => none
theorem s33 : Sound Try.prog th 33 (pureC f33) := pure_auto2 (us := us33) (nice := nice35) nok35 20 fun args t h => by
  unfold f33 at h
  split at h
  · rename_i f t f2 t2
    cases h
    refine ⟨(Tr.need (f33_0 f t f2 t2) (Tr.leaf (SV.int (IntKind.i64) (f33_1 f t f2 t2)))), by kernel_rfl, fun ok => ?_, rfl⟩
    first
    | (simp only [Tr.ok, n33_0, true_and, and_true, forall_const, implies_true]; done)
    | (simp only [Tr.ok, n33_0, true_and, and_true, forall_const, implies_true]; done)
    | (simpa only [Tr.ok, n33_0, true_and, and_true, forall_const, implies_true] using ok; done)
    | (simp only [Tr.ok, n33_0, true_and, and_true, forall_const, implies_true] at ok ⊢; grind)
  · cases h
noncomputable def nice33 : List (Nat × CF th.R) := (33, pureC f33) :: nice35
theorem nok33 : NiceOk Try.prog th nice33 := ⟨s33, nok35⟩
end Go.Sx.S

namespace Go.Sx.S
open Go Go.Sx Go.Proofs Go.RowKit
def us42 : List Un := [⟨34, [(3, 3)], [9]⟩]
def f42_0 (f : Int) (t : Int) : Bool := !f11_0 f t
def f42 : List SV → Option (Tr SV)
  | [.agg [.int .u64 f, .int .u64 t]] => some (Tr.leaf (SV.bool (f42_0 f t)))
  | _ => none
theorem s42 : Sound Try.prog th 42 (pureC f42) := pure_auto (us := us42) (nice := nice33) nok33 20 fun args t h => by
  unfold f42 at h
  split at h
  · cases h; kernel_rfl
  · cases h
noncomputable def nice42 : List (Nat × CF th.R) := (42, pureC f42) :: nice33
theorem nok42 : NiceOk Try.prog th nice42 := ⟨s42, nok33⟩
end Go.Sx.S

namespace Go.Sx.S
open Go Go.Sx Go.Proofs Go.RowKit
def us9 : List Un := [⟨34, [(3, 3)], [9]⟩, ⟨43, [(1, 3), (4, 3)], [14, 34]⟩, ⟨39, [(2, 2), (7, 2)], [13, 30]⟩, ⟨45, [(2, 4)], [9, 16]⟩, ⟨41, [(5, 4)], [12, 19, 29]⟩, ⟨31, [], [4]⟩, ⟨26, [(3, 4)], [11, 17]⟩, ⟨21, [(4, 4), (6, 4)], [12, 29, 48]⟩, ⟨9, [], [8, 14, 20, 27]⟩]
def f9_0 : Prop := ∀ (i : Nat), scpL (0:Nat) (rowEl (2 : Nat) (nat_lit 1 + (1 : Nat)) (setMany (setMany (List.map (fun i => [SV.int IntKind.u64 (0 : Int), SV.int IntKind.u64 (0 : Int)].getD (i % (2 : Nat)) Inhabited.default) (List.range ((2 : Nat) * (nat_lit 1 + (1 : Nat))))) ((0:Nat) * (nat_lit 1 + (1 : Nat))) (SV.agg (List.take Go.Proofs.Try.prog.types[(27 : Nat)].size (List.drop (0:Nat) (splice [SV.int IntKind.u64 (0 : Int), SV.int IntKind.u64 (0 : Int)] (0:Nat) (SV.agg (setMany [SV.int IntKind.u64 (0 : Int), SV.int IntKind.u64 (0 : Int)] (Go.Field.mk "To" (25 : Nat) (1 : Nat) false "" "" (8 : Nat)).offset (SV.int IntKind.u64 (4 : Int)).cells)).cells)))).cells) ((1 : Nat) * (nat_lit 1 + (1 : Nat))) (SV.agg (List.take Go.Proofs.Try.prog.types[(27 : Nat)].size (List.drop (0:Nat) (splice [SV.int IntKind.u64 (0 : Int), SV.int IntKind.u64 (0 : Int)] (0:Nat) (SV.agg (setMany (setMany [SV.int IntKind.u64 (0 : Int), SV.int IntKind.u64 (0 : Int)] (Go.Field.mk "From" (25 : Nat) (0:Nat) false "" "" (0:Nat)).offset (SV.int IntKind.u64 (2 : Int)).cells) (Go.Field.mk "To" (25 : Nat) (1 : Nat) false "" "" (8 : Nat)).offset (SV.int IntKind.u64 (6 : Int)).cells)).cells)))).cells) i) = true
def f9_1 : Prop := (0:Nat) < (2 : Nat)
def f9_2 : Prop := (0:Nat) = (0:Nat) ∧ (0:Nat) ≤ (0:Nat) ∧ (0:Nat) + (2 : Nat) ≤ (2 : Nat) ∧ ((0:Nat) + (2 : Nat)) * (4096 : Nat) ≤ (140737488355328 : Nat) ∧ (0:Nat) + (2 : Nat) ≤ (9223372036854775807 : Nat)
def f9_3 : Prop := (∀ (i : Nat), scpL (0:Nat) (rowEl (2 : Nat) (nat_lit 1 + (1 : Nat)) (setMany (setMany (List.map (fun i => [SV.int IntKind.u64 (0 : Int), SV.int IntKind.u64 (0 : Int)].getD (i % (2 : Nat)) Inhabited.default) (List.range ((2 : Nat) * (nat_lit 1 + (1 : Nat))))) ((0:Nat) * (nat_lit 1 + (1 : Nat))) (SV.agg (List.take Go.Proofs.Try.prog.types[(27 : Nat)].size (List.drop (0:Nat) (splice [SV.int IntKind.u64 (0 : Int), SV.int IntKind.u64 (0 : Int)] (0:Nat) (SV.agg (setMany [SV.int IntKind.u64 (0 : Int), SV.int IntKind.u64 (0 : Int)] (Go.Field.mk "To" (25 : Nat) (1 : Nat) false "" "" (8 : Nat)).offset (SV.int IntKind.u64 (4 : Int)).cells)).cells)))).cells) ((1 : Nat) * (nat_lit 1 + (1 : Nat))) (SV.agg (List.take Go.Proofs.Try.prog.types[(27 : Nat)].size (List.drop (0:Nat) (splice [SV.int IntKind.u64 (0 : Int), SV.int IntKind.u64 (0 : Int)] (0:Nat) (SV.agg (setMany (setMany [SV.int IntKind.u64 (0 : Int), SV.int IntKind.u64 (0 : Int)] (Go.Field.mk "From" (25 : Nat) (0:Nat) false "" "" (0:Nat)).offset (SV.int IntKind.u64 (2 : Int)).cells) (Go.Field.mk "To" (25 : Nat) (1 : Nat) false "" "" (8 : Nat)).offset (SV.int IntKind.u64 (6 : Int)).cells)).cells)))).cells) i) = true) ∧ ∀ (i : Nat), scpL (0:Nat) ((fun i => rowSet (i.blt (0:Nat)) (rowEl (0:Nat) (nat_lit 1 + (1 : Nat)) (List.map (fun i => [SV.int IntKind.u64 (0 : Int), SV.int IntKind.u64 (0 : Int)].getD (i % (2 : Nat)) Inhabited.default) (List.range ((0:Nat) * (nat_lit 1 + (1 : Nat))))) i) (rowEl (2 : Nat) (nat_lit 1 + (1 : Nat)) (setMany (setMany (List.map (fun i => [SV.int IntKind.u64 (0 : Int), SV.int IntKind.u64 (0 : Int)].getD (i % (2 : Nat)) Inhabited.default) (List.range ((2 : Nat) * (nat_lit 1 + (1 : Nat))))) ((0:Nat) * (nat_lit 1 + (1 : Nat))) (SV.agg (List.take Go.Proofs.Try.prog.types[(27 : Nat)].size (List.drop (0:Nat) (splice [SV.int IntKind.u64 (0 : Int), SV.int IntKind.u64 (0 : Int)] (0:Nat) (SV.agg (setMany [SV.int IntKind.u64 (0 : Int), SV.int IntKind.u64 (0 : Int)] (Go.Field.mk "To" (25 : Nat) (1 : Nat) false "" "" (8 : Nat)).offset (SV.int IntKind.u64 (4 : Int)).cells)).cells)))).cells) ((1 : Nat) * (nat_lit 1 + (1 : Nat))) (SV.agg (List.take Go.Proofs.Try.prog.types[(27 : Nat)].size (List.drop (0:Nat) (splice [SV.int IntKind.u64 (0 : Int), SV.int IntKind.u64 (0 : Int)] (0:Nat) (SV.agg (setMany (setMany [SV.int IntKind.u64 (0 : Int), SV.int IntKind.u64 (0 : Int)] (Go.Field.mk "From" (25 : Nat) (0:Nat) false "" "" (0:Nat)).offset (SV.int IntKind.u64 (2 : Int)).cells) (Go.Field.mk "To" (25 : Nat) (1 : Nat) false "" "" (8 : Nat)).offset (SV.int IntKind.u64 (6 : Int)).cells)).cells)))).cells) ((0:Nat) + (i - (0:Nat))))) i) = true
def f9_4 : Prop := ∀ (i : Nat), scpL (0:Nat) ((fun i => rowSet (i.blt (0:Nat)) (rowEl (0:Nat) (nat_lit 1 + (1 : Nat)) (List.map (fun i => [SV.int IntKind.u64 (0 : Int), SV.int IntKind.u64 (0 : Int)].getD (i % (2 : Nat)) Inhabited.default) (List.range ((0:Nat) * (nat_lit 1 + (1 : Nat))))) i) (rowEl (2 : Nat) (nat_lit 1 + (1 : Nat)) (setMany (setMany (List.map (fun i => [SV.int IntKind.u64 (0 : Int), SV.int IntKind.u64 (0 : Int)].getD (i % (2 : Nat)) Inhabited.default) (List.range ((2 : Nat) * (nat_lit 1 + (1 : Nat))))) ((0:Nat) * (nat_lit 1 + (1 : Nat))) (SV.agg (List.take Go.Proofs.Try.prog.types[(27 : Nat)].size (List.drop (0:Nat) (splice [SV.int IntKind.u64 (0 : Int), SV.int IntKind.u64 (0 : Int)] (0:Nat) (SV.agg (setMany [SV.int IntKind.u64 (0 : Int), SV.int IntKind.u64 (0 : Int)] (Go.Field.mk "To" (25 : Nat) (1 : Nat) false "" "" (8 : Nat)).offset (SV.int IntKind.u64 (4 : Int)).cells)).cells)))).cells) ((1 : Nat) * (nat_lit 1 + (1 : Nat))) (SV.agg (List.take Go.Proofs.Try.prog.types[(27 : Nat)].size (List.drop (0:Nat) (splice [SV.int IntKind.u64 (0 : Int), SV.int IntKind.u64 (0 : Int)] (0:Nat) (SV.agg (setMany (setMany [SV.int IntKind.u64 (0 : Int), SV.int IntKind.u64 (0 : Int)] (Go.Field.mk "From" (25 : Nat) (0:Nat) false "" "" (0:Nat)).offset (SV.int IntKind.u64 (2 : Int)).cells) (Go.Field.mk "To" (25 : Nat) (1 : Nat) false "" "" (8 : Nat)).offset (SV.int IntKind.u64 (6 : Int)).cells)).cells)))).cells) ((0:Nat) + (i - (0:Nat))))) i) = true
def f9_5 : Prop := (true = true → (0 : Int) ≤ (1 : Int) ∧ (1 : Int) < (2 : Int)) ∧ (true = true → (0:Nat) + Int.toNat (1 : Int) < (0:Nat) + (2 : Nat)) ∧ (true = true → (0 : Int) ≤ (0 : Int) ∧ (0 : Int) < (2 : Int)) ∧ (true = true → (0:Nat) + Int.toNat (0 : Int) < (0:Nat) + (2 : Nat))
def f9_6 : Prop := (0 : Int) ≤ (0 : Int) ∧ (0 : Int) < (2 : Int)
def f9_7 : Prop := (0:Nat) + Int.toNat (0 : Int) < (0:Nat) + (2 : Nat)
def f9_8 : Prop := (0 : Int) ≤ (1 : Int) ∧ (1 : Int) < (2 : Int)
def f9_9 : Prop := (0:Nat) + Int.toNat (1 : Int) < (0:Nat) + (2 : Nat)
def f9_10 : Prop := (false = true → False) ∧ (false = true → False) ∧ (false = true → False)
def f9_11 : Prop := (false = true → False) ∧ (false = true → False)
def f9_12 : Prop := (0:Nat) + (1 : Nat) ≤ (1 : Nat) ∧ (1 : Nat) * (4096 : Nat) ≤ (140737488355328 : Nat) ∧ (1 : Nat) ≤ (9223372036854775807 : Nat)
def f9_13 : Prop := (true = true → (0 : Int) ≤ (0 : Int) ∧ (0 : Int) < (1 : Int)) ∧ (true = true → (0:Nat) + Int.toNat (0 : Int) < (1 : Nat))
theorem n9_0 : f9_0  := by
  unfold f9_0
  (repeat' first
    | apply And.intro
    | intro _
    | apply scpL_rowSet)
  all_goals first
    | exact scpL_rowEl (by kernel_rfl) _
    | exact scpL_chunk (by kernel_rfl)
    | rfl
    | omega
    | decide
    | decide +kernel
theorem n9_1 : f9_1  := by
  simp only [f9_1, cnd_eq]
  grind (splits := 40)
theorem n9_2 : f9_2  := by
  simp only [f9_2, cnd_eq]
  grind (splits := 40)
theorem n9_3 : f9_3  := by
  unfold f9_3
  (repeat' first
    | apply And.intro
    | intro _
    | apply scpL_rowSet)
  all_goals first
    | exact scpL_rowEl (by kernel_rfl) _
    | exact scpL_chunk (by kernel_rfl)
    | rfl
    | omega
    | decide
    | decide +kernel
theorem n9_4 : f9_4  := by
  unfold f9_4
  (repeat' first
    | apply And.intro
    | intro _
    | apply scpL_rowSet)
  all_goals first
    | exact scpL_rowEl (by kernel_rfl) _
    | exact scpL_chunk (by kernel_rfl)
    | rfl
    | omega
    | decide
    | decide +kernel
theorem n9_5 : f9_5  := by
  simp only [f9_5, cnd_eq]
  grind (splits := 40)
theorem n9_6 : f9_6  := by
  simp only [f9_6, cnd_eq]
  grind (splits := 40)
theorem n9_7 : f9_7  := by
  simp only [f9_7, cnd_eq]
  grind (splits := 40)
theorem n9_8 : f9_8  := by
  simp only [f9_8, cnd_eq]
  grind (splits := 40)
theorem n9_9 : f9_9  := by
  simp only [f9_9, cnd_eq]
  grind (splits := 40)
theorem n9_10 : f9_10  := by
  simp only [f9_10, cnd_eq]
  grind (splits := 40)
theorem n9_11 : f9_11  := by
  simp only [f9_11, cnd_eq]
  grind (splits := 40)
theorem n9_12 : f9_12  := by
  simp only [f9_12, cnd_eq]
  grind (splits := 40)
theorem n9_13 : f9_13  := by
  simp only [f9_13, cnd_eq]
  grind (splits := 40)
def f9 : List SV → Option (Tr SV)
  | [] => some (Tr.leaf (SV.bool (true)))
  | _ => none
theorem s9 : Sound Try.prog th 9 (pureC f9) := pure_auto2 (us := us9) (nice := nice42) nok42 20 fun args t h => by
  unfold f9 at h
  split at h
  · skip
    cases h
    refine ⟨(Tr.need (f9_0) (Tr.need (f9_0) (Tr.need (f9_0) (Tr.need (f9_0) (Tr.need (f9_1) (Tr.need (f9_2) (Tr.need (f9_3) (Tr.need (f9_4) (Tr.need (f9_4) (Tr.need (f9_4) (Tr.need (f9_5) (Tr.need (f9_4) (Tr.need (f9_4) (Tr.need (f9_4) (Tr.need (f9_3) (Tr.need (f9_4) (Tr.need (f9_4) (Tr.need (f9_6) (Tr.need (f9_7) (Tr.need (f9_8) (Tr.need (f9_9) (Tr.need (f9_4) (Tr.need (f9_4) (Tr.need (f9_3) (Tr.need (f9_6) (Tr.need (f9_7) (Tr.need (f9_8) (Tr.need (f9_9) (Tr.need (f9_0) (Tr.need (f9_0) (Tr.need (f9_0) (Tr.need (f9_0) (Tr.need (f9_0) (Tr.need (f9_1) (Tr.need (f9_2) (Tr.need (f9_3) (Tr.need (f9_4) (Tr.need (f9_4) (Tr.need (f9_4) (Tr.need (f9_5) (Tr.need (f9_4) (Tr.need (f9_4) (Tr.need (f9_4) (Tr.need (f9_3) (Tr.need (f9_4) (Tr.need (f9_4) (Tr.need (f9_6) (Tr.need (f9_7) (Tr.need (f9_8) (Tr.need (f9_9) (Tr.need (f9_4) (Tr.need (f9_4) (Tr.need (f9_3) (Tr.need (f9_6) (Tr.need (f9_7) (Tr.need (f9_10) (Tr.need (f9_11) (Tr.need (f9_12) (Tr.need (f9_8) (Tr.need (f9_9) (Tr.need (f9_13) (Tr.need (f9_13) (Tr.need (f9_0) (Tr.leaf (SV.bool (true)))))))))))))))))))))))))))))))))))))))))))))))))))))))))))))))))), by kernel_rfl, fun ok => ?_, rfl⟩
    first
    | (simp only [Tr.ok, n9_0, n9_1, n9_2, n9_3, n9_4, n9_5, n9_6, n9_7, n9_8, n9_9, n9_10, n9_11, n9_12, n9_13, true_and, and_true, forall_const, implies_true]; done)
    | (simp only [Tr.ok, n9_0, n9_1, n9_2, n9_3, n9_4, n9_5, n9_6, n9_7, n9_8, n9_9, n9_10, n9_11, n9_12, n9_13, true_and, and_true, forall_const, implies_true]; done)
    | (simpa only [Tr.ok, n9_0, n9_1, n9_2, n9_3, n9_4, n9_5, n9_6, n9_7, n9_8, n9_9, n9_10, n9_11, n9_12, n9_13, true_and, and_true, forall_const, implies_true] using ok; done)
    | (simp only [Tr.ok, n9_0, n9_1, n9_2, n9_3, n9_4, n9_5, n9_6, n9_7, n9_8, n9_9, n9_10, n9_11, n9_12, n9_13, true_and, and_true, forall_const, implies_true] at ok ⊢; grind)
  · cases h
noncomputable def nice9 : List (Nat × CF th.R) := (9, pureC f9) :: nice42
theorem nok9 : NiceOk Try.prog th nice9 := ⟨s9, nok42⟩
end Go.Sx.S

namespace Go.Sx.S
open Go Go.Sx Go.Proofs Go.RowKit
set_option maxRecDepth 100000
structure V25 where
  L : Nat
  at_ : Int
  M : Nat
  ob : Obj
  F : Nat → Int
  G : Nat → Int
def A25 (v : V25) : List SV := [.slc 0 2 0 v.L, .int .u64 v.at_]
def H25 (v : V25) : List (HO th.R) := [.ro 27 2 v.M (fun j => [.int .u64 (v.F j), .int .u64 (v.G j)]) v.ob]
def toV25 (v : V25) : List (Vl th.R) := [.n v.L, .i v.at_, .n v.M, .o v.ob, .c v.F, .c v.G]
def ofV25 : List (Vl th.R) → Option V25
  | [.n L, .i at_, .n M, .o ob, .c F, .c G] => some ⟨L, at_, M, ob, F, G⟩
  | _ => none
def d25 : Ft := ⟨[.slc0 0 2, .int .u64], [.roc 27 [.int .u64, .int .u64]]⟩
structure P25_0 where
  x1 : Int
  b4 : Bool
  n7 : Nat
  x8 : Int
  N0 : Nat
  O0 : Obj
  F0_0 : Nat → Int
  F0_1 : Nat → Int
structure S25_0 where
  x9 : Int
instance : Inhabited S25_0 := ⟨⟨0⟩⟩
def I25_0 (p : P25_0) (s : S25_0) : St th.R := ⟨[none, some (.int .u64 p.x1), none, none, some (.bool p.b4), none, none, some (.slc 0 2 0 p.n7), some (.int .i64 p.x8), some (.int .i64 s.x9), none, none, none, none, none, none, none], [.ro 27 2 p.N0 (fun j => [.int .u64 (p.F0_0 j), .int .u64 (p.F0_1 j)]) p.O0], [], []⟩
def d25_0 : Lp := ⟨⟨17, [(1, .int .u64), (4, .bool), (7, .slc0 0 2), (8, .int .i64), (9, .int .i64)], [.roc 27 [.int .u64, .int .u64]]⟩, [], 1, [], [4], []⟩
def toV25_0 (p : P25_0) (s : S25_0) : List (Vl th.R) := [.i p.x1, .b p.b4, .n p.n7, .i p.x8, .i s.x9, .n p.N0, .o p.O0, .c p.F0_0, .c p.F0_1]
def ofV25_0 : List (Vl th.R) → Option (P25_0 × S25_0)
  | [.i x1, .b b4, .n n7, .i x8, .i x9, .n N0, .o O0, .c F0_0, .c F0_1] => some (⟨x1, b4, n7, x8, N0, O0, F0_0, F0_1⟩, ⟨x9⟩)
  | _ => none
noncomputable def e25_0_0 (p : P25_0) (s : S25_0) : (Bool) := cnd (decide (s.x9 < p.x8)) false true
noncomputable def e25_0_1 (p : P25_0) (s : S25_0) : (Prop) := ∀ (i : Nat), scpL (0:Nat) ((fun (j : Nat) => [SV.int IntKind.u64 (p.F0_0 j), SV.int IntKind.u64 (p.F0_1 j)]) i) = true
noncomputable def e25_0_2 (p : P25_0) (s : S25_0) : (Prop) := (0 : Int) ≤ s.x9 ∧ s.x9 < (↑p.n7 : Int)
noncomputable def e25_0_3 (p : P25_0) (s : S25_0) : (Prop) := (0:Nat) + s.x9.toNat < p.N0
noncomputable def e25_0_4 (p : P25_0) (s : S25_0) : (Bool) := f17_0 (p.F0_0 ((0:Nat) + s.x9.toNat)) (p.F0_1 ((0:Nat) + s.x9.toNat)) p.x1
noncomputable def e25_0_5 (p : P25_0) (s : S25_0) : (Prop) := (∀ (i : Nat), scpL (0:Nat) ((fun (j : Nat) => [SV.int IntKind.u64 (p.F0_0 j), SV.int IntKind.u64 (p.F0_1 j)]) i) = true) ∧ ∀ (i : Nat), i < p.N0 → (fun (j : Nat) => [SV.int IntKind.u64 (p.F0_0 j), SV.int IntKind.u64 (p.F0_1 j)]) i = elC (fun (j : Nat) => [SV.int IntKind.u64 (p.F0_0 j), SV.int IntKind.u64 (p.F0_1 j)]) (0:Nat) [Ck.int IntKind.u64, Ck.int IntKind.u64] i
noncomputable def e25_0_6 (p : P25_0) (s : S25_0) : (Int) := IntKind.i64.wrap (s.x9 + (1 : Int))
theorem n_e25_0_1 (p : P25_0) (s : S25_0) : e25_0_1 p s := by
  unfold e25_0_1
  first
    | (intros; rfl)
    | (intro i; rfl)
    | (intro i _; rfl)
    | (intro _ i; rfl)
    | (intro _ i _; rfl)
    | (refine ⟨?_, ?_⟩ <;> intro i <;> rfl)
    | (refine ⟨?_, ?_, ?_⟩ <;> intro i <;> rfl)
    | (refine ⟨?_, ?_⟩ <;> intro i _ <;> rfl)
    | (repeat' apply And.intro) <;> first | (intro i; rfl) | (intro i _; rfl) | (intro i h; exact absurd h (Nat.not_lt_zero i)) | (intro i; exact scpL_rowSet (by rfl) (by rfl)) | (intro i; exact scpL_rowEl (by kernel_rfl) _)
    | (intros; (repeat' apply And.intro) <;> intros <;> first | rfl | (exact absurd (by assumption) (Nat.not_lt_zero _)))
    | omega
    | decide
theorem n_e25_0_5 (p : P25_0) (s : S25_0) : e25_0_5 p s := by
  unfold e25_0_5
  first
    | (intros; rfl)
    | (intro i; rfl)
    | (intro i _; rfl)
    | (intro _ i; rfl)
    | (intro _ i _; rfl)
    | (refine ⟨?_, ?_⟩ <;> intro i <;> rfl)
    | (refine ⟨?_, ?_, ?_⟩ <;> intro i <;> rfl)
    | (refine ⟨?_, ?_⟩ <;> intro i _ <;> rfl)
    | (repeat' apply And.intro) <;> first | (intro i; rfl) | (intro i _; rfl) | (intro i h; exact absurd h (Nat.not_lt_zero i)) | (intro i; exact scpL_rowSet (by rfl) (by rfl)) | (intro i; exact scpL_rowEl (by kernel_rfl) _)
    | (intros; (repeat' apply And.intro) <;> intros <;> first | rfl | (exact absurd (by assumption) (Nat.not_lt_zero _)))
    | omega
    | decide
noncomputable def rf25_0 (p : P25_0) (s : S25_0) : Tr (Rs th.R S25_0) := (Tr.ite (e25_0_0 p s) (Tr.need (e25_0_1 p s) (Tr.leaf (Rs.out (Ex.exit ((0:Nat))) (none :: (none :: (none :: (none :: (List.cons (Option.some (SV.bool (p.b4))) (none :: (none :: (none :: (none :: (none :: (none :: (none :: (none :: (none :: (none :: (none :: (none :: []))))))))))))))))) (List.cons (HO.ro ((27 : Nat)) ((2 : Nat)) (p.N0) (fun j => (List.cons (SV.int (IntKind.u64) (p.F0_0 j)) (List.cons (SV.int (IntKind.u64) (p.F0_1 j)) []))) (p.O0)) [])))) (Tr.need (e25_0_2 p s) (Tr.need (e25_0_3 p s) (Tr.ite (e25_0_4 p s) (Tr.need (e25_0_1 p s) (Tr.leaf (Rs.out (Ex.ret) (none :: (none :: (none :: (none :: (List.cons (Option.some (SV.bool (true))) (none :: (none :: (none :: (none :: (none :: (none :: (none :: (none :: (none :: (none :: (none :: (none :: []))))))))))))))))) (List.cons (HO.ro ((27 : Nat)) ((2 : Nat)) (p.N0) (fun j => (List.cons (SV.int (IntKind.u64) (p.F0_0 j)) (List.cons (SV.int (IntKind.u64) (p.F0_1 j)) []))) (p.O0)) [])))) (Tr.need (e25_0_5 p s) (Tr.leaf (Rs.on (S25_0.mk ((e25_0_6 p s))))))))))
noncomputable def r25_0 (p : P25_0) (s : S25_0) : Tr (Rs th.R S25_0) := (Tr.ite (e25_0_0 p s) (Tr.leaf (Rs.out (Ex.exit ((0:Nat))) (none :: (none :: (none :: (none :: (List.cons (Option.some (SV.bool (p.b4))) (none :: (none :: (none :: (none :: (none :: (none :: (none :: (none :: (none :: (none :: (none :: (none :: []))))))))))))))))) (List.cons (HO.ro ((27 : Nat)) ((2 : Nat)) (p.N0) (fun j => (List.cons (SV.int (IntKind.u64) (p.F0_0 j)) (List.cons (SV.int (IntKind.u64) (p.F0_1 j)) []))) (p.O0)) []))) (Tr.need (e25_0_2 p s) (Tr.need (e25_0_3 p s) (Tr.ite (e25_0_4 p s) (Tr.leaf (Rs.out (Ex.ret) (none :: (none :: (none :: (none :: (List.cons (Option.some (SV.bool (true))) (none :: (none :: (none :: (none :: (none :: (none :: (none :: (none :: (none :: (none :: (none :: (none :: []))))))))))))))))) (List.cons (HO.ro ((27 : Nat)) ((2 : Nat)) (p.N0) (fun j => (List.cons (SV.int (IntKind.u64) (p.F0_0 j)) (List.cons (SV.int (IntKind.u64) (p.F0_1 j)) []))) (p.O0)) []))) (Tr.leaf (Rs.on (S25_0.mk ((e25_0_6 p s)))))))))
noncomputable def E25_0 : St th.R → Out th := evCode th Try.prog (auto th Try.prog nice9 [] 20) (autoH [] [] [] [] : Hints th) (lpAt Try.prog 25 0)
theorem B25_0 : CodeSound th Try.prog (lpAt Try.prog 25 0) E25_0 := evCode_sound (T := th) (P := Try.prog) (tbl := (auto th Try.prog nice9 [] 20)) (auto_sound (nice := nice9) (us := []) nok9 20) (autoH [] [] [] [] : Hints th) _ (LoopsOk_mem (fun _ => rfl) _ fun b hb L hL => by cases hL)
noncomputable def L25_0 : St th.R → Out th := loopL d25_0 ofV25_0 r25_0
theorem h1_25_0 (p : P25_0) (s : S25_0) : bld d25_0.tm (toV25_0 p s) = some (I25_0 p s) := by kernel_rfl
theorem h2_25_0 (l : List (Vl th.R)) (p : P25_0) (s : S25_0) (h : ofV25_0 l = some (p, s)) : l = toV25_0 p s := by
  unfold ofV25_0 at h
  split at h
  · cases h; rfl
  · cases h
theorem h3_25_0 (p : P25_0) (s : S25_0) : cvE d25_0 (E25_0 (I25_0 p s)) = some ((rf25_0 p s).map (Rs.map (toV25_0 p))) := by kernel_rfl
theorem h3g_25_0 (p : P25_0) (s : S25_0) : (rf25_0 p s).get = (r25_0 p s).get := by kernel_rfl
theorem h4_25_0 (p : P25_0) (s s1 : S25_0) : outH d25_0.dirt d25_0.n0 (r25_0 p s) = repH (maskH d25_0.dirt 0 d25_0.n0 (I25_0 p s1).heap) (r25_0 p s) := by kernel_rfl
theorem ls25_0 : CodeSound th Try.prog (.loop (lpAt Try.prog 25 0)) L25_0 := loopL_sound B25_0 d25_0 I25_0 toV25_0 (by kernel_rfl) h1_25_0 h2_25_0
  (fun p s => ⟨(rf25_0 p s).map (Rs.map (toV25_0 p)), h3_25_0 p s, fun h => by
    rw [Tr.map_ok]
    unfold r25_0 at h; unfold rf25_0
    simp only [Tr.ok, n_e25_0_1, n_e25_0_5, true_and, and_true, forall_const, implies_true] at h ⊢
    try exact h, by rw [Tr.map_get, h3g_25_0 p s]⟩) h4_25_0
theorem ok25 : LoopsOk th Try.prog (autoH [(2, L25_0)] [] [] [] : Hints th) (bodyOf Try.prog 25) := autoH_ok (bs := [lpAt Try.prog 25 0]) (by kernel_rfl) fun b hb L hL => by
  simp only [List.mem_cons, List.not_mem_nil, or_false] at hb
  rcases hb with rfl
  · have e : lookL [(2, L25_0)] (firstReg (lpAt Try.prog 25 0)) = some L25_0 := by kernel_rfl
    rw [e] at hL; cases hL
    exact ls25_0
noncomputable def f25_0 (v : V25) : (Prop) := ∀ (i : Nat), i < v.M → (fun (j : Nat) => [SV.int IntKind.u64 (v.F j), SV.int IntKind.u64 (v.G j)]) i = elC (fun (j : Nat) => [SV.int IntKind.u64 (v.F j), SV.int IntKind.u64 (v.G j)]) (0:Nat) [Ck.int IntKind.u64, Ck.int IntKind.u64] i
noncomputable def f25_1 (v : V25) : (Prop) := LT (r25_0 (P25_0.mk v.at_ false v.L (↑v.L : Int) v.M v.ob v.F v.G)) (S25_0.mk (0 : Int))
noncomputable def f25z0 (v : V25) : S25_0 := lastS (r25_0 (P25_0.mk v.at_ false v.L (↑v.L : Int) v.M v.ob v.F v.G)) (S25_0.mk (0 : Int))
noncomputable def f25_2 (v : V25) : (Bool) := cnd (cnd (e25_0_0 (P25_0.mk v.at_ false v.L (↑v.L : Int) v.M v.ob v.F v.G) (f25z0 v)) false true) true false
theorem n_f25_0 (v : V25) : f25_0 v := by
  unfold f25_0
  first
    | (intros; rfl)
    | (intro i; rfl)
    | (intro i _; rfl)
    | (intro _ i; rfl)
    | (intro _ i _; rfl)
    | (refine ⟨?_, ?_⟩ <;> intro i <;> rfl)
    | (refine ⟨?_, ?_, ?_⟩ <;> intro i <;> rfl)
    | (refine ⟨?_, ?_⟩ <;> intro i _ <;> rfl)
    | (repeat' apply And.intro) <;> first | (intro i; rfl) | (intro i _; rfl) | (intro i h; exact absurd h (Nat.not_lt_zero i)) | (intro i; exact scpL_rowSet (by rfl) (by rfl)) | (intro i; exact scpL_rowEl (by kernel_rfl) _)
    | (intros; (repeat' apply And.intro) <;> intros <;> first | rfl | (exact absurd (by assumption) (Nat.not_lt_zero _)))
    | omega
    | decide
noncomputable def ff25 (v : V25) : Tr (Fin th.R) := (Tr.need (f25_0 v) (Tr.need (f25_1 v) (Tr.leaf (Prod.mk (SV.bool (f25_2 v)) (Prod.mk (List.cons (HO.ro ((27 : Nat)) ((2 : Nat)) (v.M) (fun j => (List.cons (SV.int (IntKind.u64) (v.F j)) (List.cons (SV.int (IntKind.u64) (v.G j)) []))) (v.ob)) []) [])))))
noncomputable def f25 (v : V25) : Tr (Fin th.R) := (Tr.need (f25_1 v) (Tr.leaf (Prod.mk (SV.bool (f25_2 v)) (Prod.mk (List.cons (HO.ro ((27 : Nat)) ((2 : Nat)) (v.M) (fun j => (List.cons (SV.int (IntKind.u64) (v.F j)) (List.cons (SV.int (IntKind.u64) (v.G j)) []))) (v.ob)) []) ([])))))
noncomputable def C25 : CF th.R := fnC d25 ofV25 (f25 )
theorem q25 (v : V25) : (evFn th Try.prog (auto th Try.prog nice9 [] 20) (autoH [(2, L25_0)] [] [] [] : Hints th) 25) (A25 v) (H25 v) = some (ff25 v) := by kernel_rfl
theorem qg25 (v : V25) : ((ff25 v).map (setD [])).get = (f25 v).get := by kernel_rfl
theorem qd25 (v : V25) : allD 1 [] (ff25 v) = true := by kernel_rfl
theorem s25 : Sound Try.prog th 25 (C25 ) := fnC_sound (evFn_sound' (T := th) (P := Try.prog) (tbl := (auto th Try.prog nice9 [] 20)) (auto_sound (nice := nice9) (us := []) nok9 20) (H := (autoH [(2, L25_0)] [] [] [] : Hints th)) (k := 25) (fnLoops ok25)) d25 A25 H25 toV25 (by kernel_rfl) (fun v => by kernel_rfl)
  (fun l v h => by
    unfold ofV25 at h
    split at h
    · cases h; rfl
    · cases h)
  [] (fun v => ⟨ff25 v, q25 v, fun h => by
    unfold f25 at h; unfold ff25
    simp only [Tr.ok, n_f25_0, true_and, and_true, forall_const, implies_true] at h ⊢
    try exact h, qg25 v, qd25 v⟩)
theorem qdd25 (v : V25) : (f25 v).get.2.2 = [] := by
  rw [← qg25, Tr.map_get]; rfl
noncomputable def nice25 : List (Nat × CF th.R) := (25, lift C25) :: nice9
theorem nok25 : NiceOk Try.prog th nice25 := ⟨lift_sound s25, nok9⟩
end Go.Sx.S

namespace Go.Sx.S
open Go Go.Sx Go.Proofs Go.RowKit
set_option maxRecDepth 100000
structure V45 where
  L : Nat
  M : Nat
  F : Nat → Int
  G : Nat → Int
def A45 (v : V45) : List SV := [.slc 0 2 0 v.L, .fn 42 []]
def H45 (v : V45) : List (HO th.R) := [.row 27 2 v.M (fun j => [.int .u64 (v.F j), .int .u64 (v.G j)])]
def toV45 (v : V45) : List (Vl th.R) := [.n v.L, .n v.M, .c v.F, .c v.G]
def ofV45 : List (Vl th.R) → Option V45
  | [.n L, .n M, .c F, .c G] => some ⟨L, M, F, G⟩
  | _ => none
def d45 : Ft := ⟨[.slc0 0 2, .fn 42 []], [.rowc 27 [.int .u64, .int .u64]]⟩
structure P45_0 where
  n0 : Nat
  x4 : Int
  x7 : Int
  N0 : Nat
  F0_0 : Nat → Int
  F0_1 : Nat → Int
structure S45_0 where
  x8 : Int
instance : Inhabited S45_0 := ⟨⟨0⟩⟩
def I45_0 (p : P45_0) (s : S45_0) : St th.R := ⟨[some (.slc 0 2 0 p.n0), some (.fn 42 []), none, none, some (.int .i64 p.x4), none, none, some (.int .i64 p.x7), some (.int .i64 s.x8), none, none, none, none, none, none, none, none, none, none], [.row 27 2 p.N0 (fun j => [.int .u64 (p.F0_0 j), .int .u64 (p.F0_1 j)])], [], []⟩
def d45_0 : Lp := ⟨⟨19, [(0, .slc0 0 2), (1, .fn 42 []), (4, .int .i64), (7, .int .i64), (8, .int .i64)], [.rowc 27 [.int .u64, .int .u64]]⟩, [], 1, [], [4], []⟩
def toV45_0 (p : P45_0) (s : S45_0) : List (Vl th.R) := [.n p.n0, .i p.x4, .i p.x7, .i s.x8, .n p.N0, .c p.F0_0, .c p.F0_1]
def ofV45_0 : List (Vl th.R) → Option (P45_0 × S45_0)
  | [.n n0, .i x4, .i x7, .i x8, .n N0, .c F0_0, .c F0_1] => some (⟨n0, x4, x7, N0, F0_0, F0_1⟩, ⟨x8⟩)
  | _ => none
noncomputable def e45_0_0 (p : P45_0) (s : S45_0) : (Bool) := cnd (decide (s.x8 < p.x7)) false true
noncomputable def e45_0_1 (p : P45_0) (s : S45_0) : (Prop) := ∀ (i : Nat), scpL (0:Nat) ((fun (j : Nat) => [SV.int IntKind.u64 (p.F0_0 j), SV.int IntKind.u64 (p.F0_1 j)]) i) = true
noncomputable def e45_0_2 (p : P45_0) (s : S45_0) : (Prop) := (0 : Int) ≤ s.x8 ∧ s.x8 < (↑p.n0 : Int)
noncomputable def e45_0_3 (p : P45_0) (s : S45_0) : (Prop) := (0:Nat) + s.x8.toNat < p.N0
noncomputable def e45_0_4 (p : P45_0) (s : S45_0) : (Bool) := f42_0 (p.F0_0 ((0:Nat) + s.x8.toNat)) (p.F0_1 ((0:Nat) + s.x8.toNat))
noncomputable def e45_0_5 (p : P45_0) (s : S45_0) : (Prop) := (∀ (i : Nat), scpL (0:Nat) ((fun (j : Nat) => [SV.int IntKind.u64 (p.F0_0 j), SV.int IntKind.u64 (p.F0_1 j)]) i) = true) ∧ ∀ (i : Nat), i < p.N0 → (fun (j : Nat) => [SV.int IntKind.u64 (p.F0_0 j), SV.int IntKind.u64 (p.F0_1 j)]) i = elC (fun (j : Nat) => [SV.int IntKind.u64 (p.F0_0 j), SV.int IntKind.u64 (p.F0_1 j)]) (0:Nat) [Ck.int IntKind.u64, Ck.int IntKind.u64] i
noncomputable def e45_0_6 (p : P45_0) (s : S45_0) : (Int) := IntKind.i64.wrap (s.x8 + (1 : Int))
theorem n_e45_0_1 (p : P45_0) (s : S45_0) : e45_0_1 p s := by
  unfold e45_0_1
  first
    | (intros; rfl)
    | (intro i; rfl)
    | (intro i _; rfl)
    | (intro _ i; rfl)
    | (intro _ i _; rfl)
    | (refine ⟨?_, ?_⟩ <;> intro i <;> rfl)
    | (refine ⟨?_, ?_, ?_⟩ <;> intro i <;> rfl)
    | (refine ⟨?_, ?_⟩ <;> intro i _ <;> rfl)
    | (repeat' apply And.intro) <;> first | (intro i; rfl) | (intro i _; rfl) | (intro i h; exact absurd h (Nat.not_lt_zero i)) | (intro i; exact scpL_rowSet (by rfl) (by rfl)) | (intro i; exact scpL_rowEl (by kernel_rfl) _)
    | (intros; (repeat' apply And.intro) <;> intros <;> first | rfl | (exact absurd (by assumption) (Nat.not_lt_zero _)))
    | omega
    | decide
theorem n_e45_0_5 (p : P45_0) (s : S45_0) : e45_0_5 p s := by
  unfold e45_0_5
  first
    | (intros; rfl)
    | (intro i; rfl)
    | (intro i _; rfl)
    | (intro _ i; rfl)
    | (intro _ i _; rfl)
    | (refine ⟨?_, ?_⟩ <;> intro i <;> rfl)
    | (refine ⟨?_, ?_, ?_⟩ <;> intro i <;> rfl)
    | (refine ⟨?_, ?_⟩ <;> intro i _ <;> rfl)
    | (repeat' apply And.intro) <;> first | (intro i; rfl) | (intro i _; rfl) | (intro i h; exact absurd h (Nat.not_lt_zero i)) | (intro i; exact scpL_rowSet (by rfl) (by rfl)) | (intro i; exact scpL_rowEl (by kernel_rfl) _)
    | (intros; (repeat' apply And.intro) <;> intros <;> first | rfl | (exact absurd (by assumption) (Nat.not_lt_zero _)))
    | omega
    | decide
noncomputable def rf45_0 (p : P45_0) (s : S45_0) : Tr (Rs th.R S45_0) := (Tr.ite (e45_0_0 p s) (Tr.need (e45_0_1 p s) (Tr.leaf (Rs.out (Ex.exit ((0:Nat))) (none :: (none :: (none :: (none :: (List.cons (Option.some (SV.int (IntKind.i64) (p.x4))) (none :: (none :: (none :: (none :: (none :: (none :: (none :: (none :: (none :: (none :: (none :: (none :: (none :: (none :: []))))))))))))))))))) (List.cons (HO.row ((27 : Nat)) ((2 : Nat)) (p.N0) (fun j => (List.cons (SV.int (IntKind.u64) (p.F0_0 j)) (List.cons (SV.int (IntKind.u64) (p.F0_1 j)) [])))) [])))) (Tr.need (e45_0_2 p s) (Tr.need (e45_0_3 p s) (Tr.ite (e45_0_4 p s) (Tr.need (e45_0_1 p s) (Tr.leaf (Rs.out (Ex.ret) (none :: (none :: (none :: (none :: (List.cons (Option.some (SV.int (IntKind.i64) (s.x8))) (none :: (none :: (none :: (none :: (none :: (none :: (none :: (none :: (none :: (none :: (none :: (none :: (none :: (none :: []))))))))))))))))))) (List.cons (HO.row ((27 : Nat)) ((2 : Nat)) (p.N0) (fun j => (List.cons (SV.int (IntKind.u64) (p.F0_0 j)) (List.cons (SV.int (IntKind.u64) (p.F0_1 j)) [])))) [])))) (Tr.need (e45_0_5 p s) (Tr.leaf (Rs.on (S45_0.mk ((e45_0_6 p s))))))))))
noncomputable def r45_0 (p : P45_0) (s : S45_0) : Tr (Rs th.R S45_0) := (Tr.ite (e45_0_0 p s) (Tr.leaf (Rs.out (Ex.exit ((0:Nat))) (none :: (none :: (none :: (none :: (List.cons (Option.some (SV.int (IntKind.i64) (p.x4))) (none :: (none :: (none :: (none :: (none :: (none :: (none :: (none :: (none :: (none :: (none :: (none :: (none :: (none :: []))))))))))))))))))) (List.cons (HO.row ((27 : Nat)) ((2 : Nat)) (p.N0) (fun j => (List.cons (SV.int (IntKind.u64) (p.F0_0 j)) (List.cons (SV.int (IntKind.u64) (p.F0_1 j)) [])))) []))) (Tr.need (e45_0_2 p s) (Tr.need (e45_0_3 p s) (Tr.ite (e45_0_4 p s) (Tr.leaf (Rs.out (Ex.ret) (none :: (none :: (none :: (none :: (List.cons (Option.some (SV.int (IntKind.i64) (s.x8))) (none :: (none :: (none :: (none :: (none :: (none :: (none :: (none :: (none :: (none :: (none :: (none :: (none :: (none :: []))))))))))))))))))) (List.cons (HO.row ((27 : Nat)) ((2 : Nat)) (p.N0) (fun j => (List.cons (SV.int (IntKind.u64) (p.F0_0 j)) (List.cons (SV.int (IntKind.u64) (p.F0_1 j)) [])))) []))) (Tr.leaf (Rs.on (S45_0.mk ((e45_0_6 p s)))))))))
noncomputable def E45_0 : St th.R → Out th := evCode th Try.prog (auto th Try.prog nice25 [] 20) (autoH [] [] [] [] : Hints th) (lpAt Try.prog 45 0)
theorem B45_0 : CodeSound th Try.prog (lpAt Try.prog 45 0) E45_0 := evCode_sound (T := th) (P := Try.prog) (tbl := (auto th Try.prog nice25 [] 20)) (auto_sound (nice := nice25) (us := []) nok25 20) (autoH [] [] [] [] : Hints th) _ (LoopsOk_mem (fun _ => rfl) _ fun b hb L hL => by cases hL)
noncomputable def L45_0 : St th.R → Out th := loopL d45_0 ofV45_0 r45_0
theorem h1_45_0 (p : P45_0) (s : S45_0) : bld d45_0.tm (toV45_0 p s) = some (I45_0 p s) := by kernel_rfl
theorem h2_45_0 (l : List (Vl th.R)) (p : P45_0) (s : S45_0) (h : ofV45_0 l = some (p, s)) : l = toV45_0 p s := by
  unfold ofV45_0 at h
  split at h
  · cases h; rfl
  · cases h
theorem h3_45_0 (p : P45_0) (s : S45_0) : cvE d45_0 (E45_0 (I45_0 p s)) = some ((rf45_0 p s).map (Rs.map (toV45_0 p))) := by kernel_rfl
theorem h3g_45_0 (p : P45_0) (s : S45_0) : (rf45_0 p s).get = (r45_0 p s).get := by kernel_rfl
theorem h4_45_0 (p : P45_0) (s s1 : S45_0) : outH d45_0.dirt d45_0.n0 (r45_0 p s) = repH (maskH d45_0.dirt 0 d45_0.n0 (I45_0 p s1).heap) (r45_0 p s) := by kernel_rfl
theorem ls45_0 : CodeSound th Try.prog (.loop (lpAt Try.prog 45 0)) L45_0 := loopL_sound B45_0 d45_0 I45_0 toV45_0 (by kernel_rfl) h1_45_0 h2_45_0
  (fun p s => ⟨(rf45_0 p s).map (Rs.map (toV45_0 p)), h3_45_0 p s, fun h => by
    rw [Tr.map_ok]
    unfold r45_0 at h; unfold rf45_0
    simp only [Tr.ok, n_e45_0_1, n_e45_0_5, true_and, and_true, forall_const, implies_true] at h ⊢
    try exact h, by rw [Tr.map_get, h3g_45_0 p s]⟩) h4_45_0
theorem ok45 : LoopsOk th Try.prog (autoH [(2, L45_0)] [] [] [] : Hints th) (bodyOf Try.prog 45) := autoH_ok (bs := [lpAt Try.prog 45 0]) (by kernel_rfl) fun b hb L hL => by
  simp only [List.mem_cons, List.not_mem_nil, or_false] at hb
  rcases hb with rfl
  · have e : lookL [(2, L45_0)] (firstReg (lpAt Try.prog 45 0)) = some L45_0 := by kernel_rfl
    rw [e] at hL; cases hL
    exact ls45_0
noncomputable def f45_0 (v : V45) : (Prop) := ∀ (i : Nat), i < v.M → (fun (j : Nat) => [SV.int IntKind.u64 (v.F j), SV.int IntKind.u64 (v.G j)]) i = elC (fun (j : Nat) => [SV.int IntKind.u64 (v.F j), SV.int IntKind.u64 (v.G j)]) (0:Nat) [Ck.int IntKind.u64, Ck.int IntKind.u64] i
noncomputable def f45_1 (v : V45) : (Prop) := LT (r45_0 (P45_0.mk v.L (0 : Int) (↑v.L : Int) v.M v.F v.G)) (S45_0.mk (0 : Int))
noncomputable def f45z0 (v : V45) : S45_0 := lastS (r45_0 (P45_0.mk v.L (0 : Int) (↑v.L : Int) v.M v.F v.G)) (S45_0.mk (0 : Int))
noncomputable def f45_2 (v : V45) : (Int) := cnd (cnd (e45_0_0 (P45_0.mk v.L (0 : Int) (↑v.L : Int) v.M v.F v.G) (f45z0 v)) false true) (f45z0 v).x8 (-1 : Int)
theorem n_f45_0 (v : V45) : f45_0 v := by
  unfold f45_0
  first
    | (intros; rfl)
    | (intro i; rfl)
    | (intro i _; rfl)
    | (intro _ i; rfl)
    | (intro _ i _; rfl)
    | (refine ⟨?_, ?_⟩ <;> intro i <;> rfl)
    | (refine ⟨?_, ?_, ?_⟩ <;> intro i <;> rfl)
    | (refine ⟨?_, ?_⟩ <;> intro i _ <;> rfl)
    | (repeat' apply And.intro) <;> first | (intro i; rfl) | (intro i _; rfl) | (intro i h; exact absurd h (Nat.not_lt_zero i)) | (intro i; exact scpL_rowSet (by rfl) (by rfl)) | (intro i; exact scpL_rowEl (by kernel_rfl) _)
    | (intros; (repeat' apply And.intro) <;> intros <;> first | rfl | (exact absurd (by assumption) (Nat.not_lt_zero _)))
    | omega
    | decide
noncomputable def ff45 (v : V45) : Tr (Fin th.R) := (Tr.need (f45_0 v) (Tr.need (f45_1 v) (Tr.leaf (Prod.mk (SV.int (IntKind.i64) (f45_2 v)) (Prod.mk (List.cons (HO.row ((27 : Nat)) ((2 : Nat)) (v.M) (fun j => (List.cons (SV.int (IntKind.u64) (v.F j)) (List.cons (SV.int (IntKind.u64) (v.G j)) [])))) []) [])))))
noncomputable def f45 (v : V45) : Tr (Fin th.R) := (Tr.need (f45_1 v) (Tr.leaf (Prod.mk (SV.int (IntKind.i64) (f45_2 v)) (Prod.mk (List.cons (HO.row ((27 : Nat)) ((2 : Nat)) (v.M) (fun j => (List.cons (SV.int (IntKind.u64) (v.F j)) (List.cons (SV.int (IntKind.u64) (v.G j)) [])))) []) ([])))))
noncomputable def C45 : CF th.R := fnC d45 ofV45 (f45 )
theorem q45 (v : V45) : (evFn th Try.prog (auto th Try.prog nice25 [] 20) (autoH [(2, L45_0)] [] [] [] : Hints th) 45) (A45 v) (H45 v) = some (ff45 v) := by kernel_rfl
theorem qg45 (v : V45) : ((ff45 v).map (setD [])).get = (f45 v).get := by kernel_rfl
theorem qd45 (v : V45) : allD 1 [] (ff45 v) = true := by kernel_rfl
theorem s45 : Sound Try.prog th 45 (C45 ) := fnC_sound (evFn_sound' (T := th) (P := Try.prog) (tbl := (auto th Try.prog nice25 [] 20)) (auto_sound (nice := nice25) (us := []) nok25 20) (H := (autoH [(2, L45_0)] [] [] [] : Hints th)) (k := 45) (fnLoops ok45)) d45 A45 H45 toV45 (by kernel_rfl) (fun v => by kernel_rfl)
  (fun l v h => by
    unfold ofV45 at h
    split at h
    · cases h; rfl
    · cases h)
  [] (fun v => ⟨ff45 v, q45 v, fun h => by
    unfold f45 at h; unfold ff45
    simp only [Tr.ok, n_f45_0, true_and, and_true, forall_const, implies_true] at h ⊢
    try exact h, qg45 v, qd45 v⟩)
theorem qdd45 (v : V45) : (f45 v).get.2.2 = [] := by
  rw [← qg45, Tr.map_get]; rfl
noncomputable def nice45 : List (Nat × CF th.R) := (45, lift C45) :: nice25
theorem nok45 : NiceOk Try.prog th nice45 := ⟨lift_sound s45, nok25⟩
end Go.Sx.S

namespace Go.Sx.S
open Go Go.Sx Go.Proofs Go.RowKit
set_option maxRecDepth 100000
structure V47 where
  L : Nat
  a : Int
  b : Int
  n : Int
  M : Nat
  F : Nat → Int
  G : Nat → Int
def A47 (v : V47) : List SV := [.slc 0 2 0 v.L, .int .i64 v.a, .int .i64 v.b, .int .i64 v.n, .fn 33 []]
def H47 (v : V47) : List (HO th.R) := [.row 27 2 v.M (fun j => [.int .u64 (v.F j), .int .u64 (v.G j)])]
def toV47 (v : V47) : List (Vl th.R) := [.n v.L, .i v.a, .i v.b, .i v.n, .n v.M, .c v.F, .c v.G]
def ofV47 : List (Vl th.R) → Option V47
  | [.n L, .i a, .i b, .i n, .n M, .c F, .c G] => some ⟨L, a, b, n, M, F, G⟩
  | _ => none
def d47 : Ft := ⟨[.slc0 0 2, .int .i64, .int .i64, .int .i64, .fn 33 []], [.rowc 27 [.int .u64, .int .u64]]⟩
structure P47_0 where
  n0 : Nat
  x1 : Int
  x2 : Int
  x3 : Int
  N0 : Nat
structure S47_0 where
  x10 : Int
  F0_0 : Nat → Int
  F0_1 : Nat → Int
instance : Inhabited S47_0 := ⟨⟨0, fun _ => 0, fun _ => 0⟩⟩
def I47_0 (p : P47_0) (s : S47_0) : St th.R := ⟨[some (.slc 0 2 0 p.n0), some (.int .i64 p.x1), some (.int .i64 p.x2), some (.int .i64 p.x3), none, none, none, none, none, none, some (.int .i64 s.x10), none, none, none, none, none, none, none, none, none, none, none, none, none, none, none, none, none, none, none, none, none, none, none, none, none, none, none], [.row 27 2 p.N0 (fun j => [.int .u64 (s.F0_0 j), .int .u64 (s.F0_1 j)])], [], []⟩
def d47_0 : Lp := ⟨⟨38, [(0, .slc0 0 2), (1, .int .i64), (2, .int .i64), (3, .int .i64), (10, .int .i64)], [.rowc 27 [.int .u64, .int .u64]]⟩, [], 1, [0], [], []⟩
def toV47_0 (p : P47_0) (s : S47_0) : List (Vl th.R) := [.n p.n0, .i p.x1, .i p.x2, .i p.x3, .i s.x10, .n p.N0, .c s.F0_0, .c s.F0_1]
def ofV47_0 : List (Vl th.R) → Option (P47_0 × S47_0)
  | [.n n0, .i x1, .i x2, .i x3, .i x10, .n N0, .c F0_0, .c F0_1] => some (⟨n0, x1, x2, x3, N0⟩, ⟨x10, F0_0, F0_1⟩)
  | _ => none
noncomputable def e47_0_0 (p : P47_0) (s : S47_0) : (Bool) := cnd (decide (s.x10 < p.x3)) false true
noncomputable def e47_0_1 (p : P47_0) (s : S47_0) : (Prop) := ∀ (i : Nat), scpL (0:Nat) ((fun (j : Nat) => [SV.int IntKind.u64 (s.F0_0 j), SV.int IntKind.u64 (s.F0_1 j)]) i) = true
noncomputable def e47_0_2 (p : P47_0) (s : S47_0) : (Prop) := (true = true → (0 : Int) ≤ IntKind.i64.wrap (p.x2 + s.x10) ∧ IntKind.i64.wrap (p.x2 + s.x10) < (↑p.n0 : Int)) ∧ (true = true → (0:Nat) + (IntKind.i64.wrap (p.x2 + s.x10)).toNat < p.N0) ∧ (true = true → (0 : Int) ≤ IntKind.i64.wrap (p.x1 + s.x10) ∧ IntKind.i64.wrap (p.x1 + s.x10) < (↑p.n0 : Int)) ∧ (true = true → (0:Nat) + (IntKind.i64.wrap (p.x1 + s.x10)).toNat < p.N0) ∧ (true = true → (0 : Int) ≤ IntKind.i64.wrap (p.x1 + s.x10) ∧ IntKind.i64.wrap (p.x1 + s.x10) < (↑p.n0 : Int)) ∧ ((0:Nat) + (IntKind.i64.wrap (p.x1 + s.x10)).toNat < p.N0 ∧ (2 : Nat) = (2 : Nat)) ∧ (true = true → (0 : Int) ≤ IntKind.i64.wrap (p.x2 + s.x10) ∧ IntKind.i64.wrap (p.x2 + s.x10) < (↑p.n0 : Int)) ∧ (0:Nat) + (IntKind.i64.wrap (p.x2 + s.x10)).toNat < p.N0 ∧ (2 : Nat) = (2 : Nat)
noncomputable def e47_0_3 (p : P47_0) (s : S47_0) : (Prop) := (∀ (i : Nat), scpL (0:Nat) ((fun (j : Nat) => rowSet (j.beq ((0:Nat) + (IntKind.i64.wrap (p.x2 + s.x10)).toNat)) (splice ((fun (j : Nat) => rowSet (j.beq ((0:Nat) + (IntKind.i64.wrap (p.x1 + s.x10)).toNat)) (splice ((fun (j : Nat) => [SV.int IntKind.u64 (s.F0_0 j), SV.int IntKind.u64 (s.F0_1 j)]) ((0:Nat) + (IntKind.i64.wrap (p.x1 + s.x10)).toNat)) (0:Nat) (SV.agg (List.take (2 : Nat) (List.drop (0:Nat) ((fun (j : Nat) => [SV.int IntKind.u64 (s.F0_0 j), SV.int IntKind.u64 (s.F0_1 j)]) ((0:Nat) + (IntKind.i64.wrap (p.x2 + s.x10)).toNat))))).cells) ((fun (j : Nat) => [SV.int IntKind.u64 (s.F0_0 j), SV.int IntKind.u64 (s.F0_1 j)]) j)) ((0:Nat) + (IntKind.i64.wrap (p.x2 + s.x10)).toNat)) (0:Nat) (SV.agg (List.take (2 : Nat) (List.drop (0:Nat) ((fun (j : Nat) => [SV.int IntKind.u64 (s.F0_0 j), SV.int IntKind.u64 (s.F0_1 j)]) ((0:Nat) + (IntKind.i64.wrap (p.x1 + s.x10)).toNat))))).cells) ((fun (j : Nat) => rowSet (j.beq ((0:Nat) + (IntKind.i64.wrap (p.x1 + s.x10)).toNat)) (splice ((fun (j : Nat) => [SV.int IntKind.u64 (s.F0_0 j), SV.int IntKind.u64 (s.F0_1 j)]) ((0:Nat) + (IntKind.i64.wrap (p.x1 + s.x10)).toNat)) (0:Nat) (SV.agg (List.take (2 : Nat) (List.drop (0:Nat) ((fun (j : Nat) => [SV.int IntKind.u64 (s.F0_0 j), SV.int IntKind.u64 (s.F0_1 j)]) ((0:Nat) + (IntKind.i64.wrap (p.x2 + s.x10)).toNat))))).cells) ((fun (j : Nat) => [SV.int IntKind.u64 (s.F0_0 j), SV.int IntKind.u64 (s.F0_1 j)]) j)) j)) i) = true) ∧ ∀ (i : Nat), i < p.N0 → (fun (j : Nat) => rowSet (j.beq ((0:Nat) + (IntKind.i64.wrap (p.x2 + s.x10)).toNat)) (splice ((fun (j : Nat) => rowSet (j.beq ((0:Nat) + (IntKind.i64.wrap (p.x1 + s.x10)).toNat)) (splice ((fun (j : Nat) => [SV.int IntKind.u64 (s.F0_0 j), SV.int IntKind.u64 (s.F0_1 j)]) ((0:Nat) + (IntKind.i64.wrap (p.x1 + s.x10)).toNat)) (0:Nat) (SV.agg (List.take (2 : Nat) (List.drop (0:Nat) ((fun (j : Nat) => [SV.int IntKind.u64 (s.F0_0 j), SV.int IntKind.u64 (s.F0_1 j)]) ((0:Nat) + (IntKind.i64.wrap (p.x2 + s.x10)).toNat))))).cells) ((fun (j : Nat) => [SV.int IntKind.u64 (s.F0_0 j), SV.int IntKind.u64 (s.F0_1 j)]) j)) ((0:Nat) + (IntKind.i64.wrap (p.x2 + s.x10)).toNat)) (0:Nat) (SV.agg (List.take (2 : Nat) (List.drop (0:Nat) ((fun (j : Nat) => [SV.int IntKind.u64 (s.F0_0 j), SV.int IntKind.u64 (s.F0_1 j)]) ((0:Nat) + (IntKind.i64.wrap (p.x1 + s.x10)).toNat))))).cells) ((fun (j : Nat) => rowSet (j.beq ((0:Nat) + (IntKind.i64.wrap (p.x1 + s.x10)).toNat)) (splice ((fun (j : Nat) => [SV.int IntKind.u64 (s.F0_0 j), SV.int IntKind.u64 (s.F0_1 j)]) ((0:Nat) + (IntKind.i64.wrap (p.x1 + s.x10)).toNat)) (0:Nat) (SV.agg (List.take (2 : Nat) (List.drop (0:Nat) ((fun (j : Nat) => [SV.int IntKind.u64 (s.F0_0 j), SV.int IntKind.u64 (s.F0_1 j)]) ((0:Nat) + (IntKind.i64.wrap (p.x2 + s.x10)).toNat))))).cells) ((fun (j : Nat) => [SV.int IntKind.u64 (s.F0_0 j), SV.int IntKind.u64 (s.F0_1 j)]) j)) j)) i = elC (fun (j : Nat) => rowSet (j.beq ((0:Nat) + (IntKind.i64.wrap (p.x2 + s.x10)).toNat)) (splice ((fun (j : Nat) => rowSet (j.beq ((0:Nat) + (IntKind.i64.wrap (p.x1 + s.x10)).toNat)) (splice ((fun (j : Nat) => [SV.int IntKind.u64 (s.F0_0 j), SV.int IntKind.u64 (s.F0_1 j)]) ((0:Nat) + (IntKind.i64.wrap (p.x1 + s.x10)).toNat)) (0:Nat) (SV.agg (List.take (2 : Nat) (List.drop (0:Nat) ((fun (j : Nat) => [SV.int IntKind.u64 (s.F0_0 j), SV.int IntKind.u64 (s.F0_1 j)]) ((0:Nat) + (IntKind.i64.wrap (p.x2 + s.x10)).toNat))))).cells) ((fun (j : Nat) => [SV.int IntKind.u64 (s.F0_0 j), SV.int IntKind.u64 (s.F0_1 j)]) j)) ((0:Nat) + (IntKind.i64.wrap (p.x2 + s.x10)).toNat)) (0:Nat) (SV.agg (List.take (2 : Nat) (List.drop (0:Nat) ((fun (j : Nat) => [SV.int IntKind.u64 (s.F0_0 j), SV.int IntKind.u64 (s.F0_1 j)]) ((0:Nat) + (IntKind.i64.wrap (p.x1 + s.x10)).toNat))))).cells) ((fun (j : Nat) => rowSet (j.beq ((0:Nat) + (IntKind.i64.wrap (p.x1 + s.x10)).toNat)) (splice ((fun (j : Nat) => [SV.int IntKind.u64 (s.F0_0 j), SV.int IntKind.u64 (s.F0_1 j)]) ((0:Nat) + (IntKind.i64.wrap (p.x1 + s.x10)).toNat)) (0:Nat) (SV.agg (List.take (2 : Nat) (List.drop (0:Nat) ((fun (j : Nat) => [SV.int IntKind.u64 (s.F0_0 j), SV.int IntKind.u64 (s.F0_1 j)]) ((0:Nat) + (IntKind.i64.wrap (p.x2 + s.x10)).toNat))))).cells) ((fun (j : Nat) => [SV.int IntKind.u64 (s.F0_0 j), SV.int IntKind.u64 (s.F0_1 j)]) j)) j)) (0:Nat) [Ck.int IntKind.u64, Ck.int IntKind.u64] i
noncomputable def e47_0_4 (p : P47_0) (s : S47_0) : (Int) := IntKind.i64.wrap (s.x10 + (1 : Int))
noncomputable def e47_0_5 (p : P47_0) (s : S47_0) : Nat → (Int) := fun j => cnd (j.beq ((0:Nat) + (IntKind.i64.wrap (p.x2 + s.x10)).toNat)) (s.F0_0 ((0:Nat) + (IntKind.i64.wrap (p.x1 + s.x10)).toNat)) (cnd (j.beq ((0:Nat) + (IntKind.i64.wrap (p.x1 + s.x10)).toNat)) (s.F0_0 ((0:Nat) + (IntKind.i64.wrap (p.x2 + s.x10)).toNat)) (s.F0_0 j))
noncomputable def e47_0_6 (p : P47_0) (s : S47_0) : Nat → (Int) := fun j => cnd (j.beq ((0:Nat) + (IntKind.i64.wrap (p.x2 + s.x10)).toNat)) (s.F0_1 ((0:Nat) + (IntKind.i64.wrap (p.x1 + s.x10)).toNat)) (cnd (j.beq ((0:Nat) + (IntKind.i64.wrap (p.x1 + s.x10)).toNat)) (s.F0_1 ((0:Nat) + (IntKind.i64.wrap (p.x2 + s.x10)).toNat)) (s.F0_1 j))
theorem n_e47_0_1 (p : P47_0) (s : S47_0) : e47_0_1 p s := by
  unfold e47_0_1
  first
    | (intros; rfl)
    | (intro i; rfl)
    | (intro i _; rfl)
    | (intro _ i; rfl)
    | (intro _ i _; rfl)
    | (refine ⟨?_, ?_⟩ <;> intro i <;> rfl)
    | (refine ⟨?_, ?_, ?_⟩ <;> intro i <;> rfl)
    | (refine ⟨?_, ?_⟩ <;> intro i _ <;> rfl)
    | (repeat' apply And.intro) <;> first | (intro i; rfl) | (intro i _; rfl) | (intro i h; exact absurd h (Nat.not_lt_zero i)) | (intro i; exact scpL_rowSet (by rfl) (by rfl)) | (intro i; exact scpL_rowEl (by kernel_rfl) _)
    | (intros; (repeat' apply And.intro) <;> intros <;> first | rfl | (exact absurd (by assumption) (Nat.not_lt_zero _)))
    | omega
    | decide
theorem n_e47_0_3 (p : P47_0) (s : S47_0) : e47_0_3 p s := by
  unfold e47_0_3
  first
    | (intros; rfl)
    | (intro i; rfl)
    | (intro i _; rfl)
    | (intro _ i; rfl)
    | (intro _ i _; rfl)
    | (refine ⟨?_, ?_⟩ <;> intro i <;> rfl)
    | (refine ⟨?_, ?_, ?_⟩ <;> intro i <;> rfl)
    | (refine ⟨?_, ?_⟩ <;> intro i _ <;> rfl)
    | (repeat' apply And.intro) <;> first | (intro i; rfl) | (intro i _; rfl) | (intro i h; exact absurd h (Nat.not_lt_zero i)) | (intro i; exact scpL_rowSet (by rfl) (by rfl)) | (intro i; exact scpL_rowEl (by kernel_rfl) _)
    | (intros; (repeat' apply And.intro) <;> intros <;> first | rfl | (exact absurd (by assumption) (Nat.not_lt_zero _)))
    | omega
    | decide
noncomputable def rf47_0 (p : P47_0) (s : S47_0) : Tr (Rs th.R S47_0) := (Tr.ite (e47_0_0 p s) (Tr.need (e47_0_1 p s) (Tr.leaf (Rs.out (Ex.exit ((0:Nat))) (none :: (none :: (none :: (none :: (none :: (none :: (none :: (none :: (none :: (none :: (none :: (none :: (none :: (none :: (none :: (none :: (none :: (none :: (none :: (none :: (none :: (none :: (none :: (none :: (none :: (none :: (none :: (none :: (none :: (none :: (none :: (none :: (none :: (none :: (none :: (none :: (none :: (none :: [])))))))))))))))))))))))))))))))))))))) (List.cons (HO.row ((27 : Nat)) ((2 : Nat)) (p.N0) (fun j => (List.cons (SV.int (IntKind.u64) (s.F0_0 j)) (List.cons (SV.int (IntKind.u64) (s.F0_1 j)) [])))) [])))) (Tr.need (e47_0_2 p s) (Tr.need (e47_0_3 p s) (Tr.leaf (Rs.on (S47_0.mk ((e47_0_4 p s)) ((fun j => (e47_0_5 p s j))) ((fun j => (e47_0_6 p s j)))))))))
noncomputable def r47_0 (p : P47_0) (s : S47_0) : Tr (Rs th.R S47_0) := (Tr.ite (e47_0_0 p s) (Tr.leaf (Rs.out (Ex.exit ((0:Nat))) (none :: (none :: (none :: (none :: (none :: (none :: (none :: (none :: (none :: (none :: (none :: (none :: (none :: (none :: (none :: (none :: (none :: (none :: (none :: (none :: (none :: (none :: (none :: (none :: (none :: (none :: (none :: (none :: (none :: (none :: (none :: (none :: (none :: (none :: (none :: (none :: (none :: (none :: [])))))))))))))))))))))))))))))))))))))) (List.cons (HO.row ((27 : Nat)) ((2 : Nat)) (p.N0) (fun j => (List.cons (SV.int (IntKind.u64) (s.F0_0 j)) (List.cons (SV.int (IntKind.u64) (s.F0_1 j)) [])))) []))) (Tr.need (e47_0_2 p s) (Tr.leaf (Rs.on (S47_0.mk ((e47_0_4 p s)) ((fun j => (e47_0_5 p s j))) ((fun j => (e47_0_6 p s j))))))))
noncomputable def E47_0 : St th.R → Out th := evCode th Try.prog (auto th Try.prog nice45 [] 20) (autoH [] [] [] [] : Hints th) (lpAt Try.prog 47 0)
theorem B47_0 : CodeSound th Try.prog (lpAt Try.prog 47 0) E47_0 := evCode_sound (T := th) (P := Try.prog) (tbl := (auto th Try.prog nice45 [] 20)) (auto_sound (nice := nice45) (us := []) nok45 20) (autoH [] [] [] [] : Hints th) _ (LoopsOk_mem (fun _ => rfl) _ fun b hb L hL => by cases hL)
noncomputable def L47_0 : St th.R → Out th := loopL d47_0 ofV47_0 r47_0
theorem h1_47_0 (p : P47_0) (s : S47_0) : bld d47_0.tm (toV47_0 p s) = some (I47_0 p s) := by kernel_rfl
theorem h2_47_0 (l : List (Vl th.R)) (p : P47_0) (s : S47_0) (h : ofV47_0 l = some (p, s)) : l = toV47_0 p s := by
  unfold ofV47_0 at h
  split at h
  · cases h; rfl
  · cases h
theorem h3_47_0 (p : P47_0) (s : S47_0) : cvE d47_0 (E47_0 (I47_0 p s)) = some ((rf47_0 p s).map (Rs.map (toV47_0 p))) := by kernel_rfl
theorem h3g_47_0 (p : P47_0) (s : S47_0) : (rf47_0 p s).get = (r47_0 p s).get := by kernel_rfl
theorem h4_47_0 (p : P47_0) (s s1 : S47_0) : outH d47_0.dirt d47_0.n0 (r47_0 p s) = repH (maskH d47_0.dirt 0 d47_0.n0 (I47_0 p s1).heap) (r47_0 p s) := by kernel_rfl
theorem ls47_0 : CodeSound th Try.prog (.loop (lpAt Try.prog 47 0)) L47_0 := loopL_sound B47_0 d47_0 I47_0 toV47_0 (by kernel_rfl) h1_47_0 h2_47_0
  (fun p s => ⟨(rf47_0 p s).map (Rs.map (toV47_0 p)), h3_47_0 p s, fun h => by
    rw [Tr.map_ok]
    unfold r47_0 at h; unfold rf47_0
    simp only [Tr.ok, n_e47_0_1, n_e47_0_3, true_and, and_true, forall_const, implies_true] at h ⊢
    try exact h, by rw [Tr.map_get, h3g_47_0 p s]⟩) h4_47_0
theorem ok47 : LoopsOk th Try.prog (autoH [(1, L47_0)] [] [] [] : Hints th) (bodyOf Try.prog 47) := autoH_ok (bs := [lpAt Try.prog 47 0]) (by kernel_rfl) fun b hb L hL => by
  simp only [List.mem_cons, List.not_mem_nil, or_false] at hb
  rcases hb with rfl
  · have e : lookL [(1, L47_0)] (firstReg (lpAt Try.prog 47 0)) = some L47_0 := by kernel_rfl
    rw [e] at hL; cases hL
    exact ls47_0
noncomputable def f47_0 (v : V47) : (Prop) := ∀ (i : Nat), i < v.M → (fun (j : Nat) => [SV.int IntKind.u64 (v.F j), SV.int IntKind.u64 (v.G j)]) i = elC (fun (j : Nat) => [SV.int IntKind.u64 (v.F j), SV.int IntKind.u64 (v.G j)]) (0:Nat) [Ck.int IntKind.u64, Ck.int IntKind.u64] i
noncomputable def f47_1 (v : V47) : (Prop) := LT (r47_0 (P47_0.mk v.L v.a v.b v.n v.M)) (S47_0.mk (0 : Int) v.F v.G)
noncomputable def f47z0 (v : V47) : S47_0 := lastS (r47_0 (P47_0.mk v.L v.a v.b v.n v.M)) (S47_0.mk (0 : Int) v.F v.G)
noncomputable def f47_2 (v : V47) : (Prop) := ∀ (i : Nat), scpL (1 : Nat) ((fun (j : Nat) => [SV.int IntKind.u64 ((f47z0 v).F0_0 j), SV.int IntKind.u64 ((f47z0 v).F0_1 j)]) i) = true
noncomputable def f47_3 (v : V47) : Nat → (Int) := fun j => (f47z0 v).F0_0 j
noncomputable def f47_4 (v : V47) : Nat → (Int) := fun j => (f47z0 v).F0_1 j
theorem n_f47_0 (v : V47) : f47_0 v := by
  unfold f47_0
  first
    | (intros; rfl)
    | (intro i; rfl)
    | (intro i _; rfl)
    | (intro _ i; rfl)
    | (intro _ i _; rfl)
    | (refine ⟨?_, ?_⟩ <;> intro i <;> rfl)
    | (refine ⟨?_, ?_, ?_⟩ <;> intro i <;> rfl)
    | (refine ⟨?_, ?_⟩ <;> intro i _ <;> rfl)
    | (repeat' apply And.intro) <;> first | (intro i; rfl) | (intro i _; rfl) | (intro i h; exact absurd h (Nat.not_lt_zero i)) | (intro i; exact scpL_rowSet (by rfl) (by rfl)) | (intro i; exact scpL_rowEl (by kernel_rfl) _)
    | (intros; (repeat' apply And.intro) <;> intros <;> first | rfl | (exact absurd (by assumption) (Nat.not_lt_zero _)))
    | omega
    | decide
theorem n_f47_2 (v : V47) : f47_2 v := by
  unfold f47_2
  first
    | (intros; rfl)
    | (intro i; rfl)
    | (intro i _; rfl)
    | (intro _ i; rfl)
    | (intro _ i _; rfl)
    | (refine ⟨?_, ?_⟩ <;> intro i <;> rfl)
    | (refine ⟨?_, ?_, ?_⟩ <;> intro i <;> rfl)
    | (refine ⟨?_, ?_⟩ <;> intro i _ <;> rfl)
    | (repeat' apply And.intro) <;> first | (intro i; rfl) | (intro i _; rfl) | (intro i h; exact absurd h (Nat.not_lt_zero i)) | (intro i; exact scpL_rowSet (by rfl) (by rfl)) | (intro i; exact scpL_rowEl (by kernel_rfl) _)
    | (intros; (repeat' apply And.intro) <;> intros <;> first | rfl | (exact absurd (by assumption) (Nat.not_lt_zero _)))
    | omega
    | decide
noncomputable def ff47 (v : V47) : Tr (Fin th.R) := (Tr.need (f47_0 v) (Tr.need (f47_1 v) (Tr.need (f47_2 v) (Tr.leaf (Prod.mk (SV.tup []) (Prod.mk (List.cons (HO.row ((27 : Nat)) ((2 : Nat)) (v.M) (fun j => (List.cons (SV.int (IntKind.u64) (f47_3 v j)) (List.cons (SV.int (IntKind.u64) (f47_4 v j)) [])))) []) (List.cons ((0:Nat)) [])))))))
noncomputable def f47 (v : V47) : Tr (Fin th.R) := (Tr.need (f47_1 v) (Tr.leaf (Prod.mk (SV.tup []) (Prod.mk (List.cons (HO.row ((27 : Nat)) ((2 : Nat)) (v.M) (fun j => (List.cons (SV.int (IntKind.u64) (f47_3 v j)) (List.cons (SV.int (IntKind.u64) (f47_4 v j)) [])))) []) ([0])))))
noncomputable def C47 : CF th.R := fnC d47 ofV47 (f47 )
theorem q47 (v : V47) : (evFn th Try.prog (auto th Try.prog nice45 [] 20) (autoH [(1, L47_0)] [] [] [] : Hints th) 47) (A47 v) (H47 v) = some (ff47 v) := by kernel_rfl
theorem qg47 (v : V47) : ((ff47 v).map (setD [0])).get = (f47 v).get := by kernel_rfl
theorem qd47 (v : V47) : allD 1 [0] (ff47 v) = true := by kernel_rfl
theorem s47 : Sound Try.prog th 47 (C47 ) := fnC_sound (evFn_sound' (T := th) (P := Try.prog) (tbl := (auto th Try.prog nice45 [] 20)) (auto_sound (nice := nice45) (us := []) nok45 20) (H := (autoH [(1, L47_0)] [] [] [] : Hints th)) (k := 47) (fnLoops ok47)) d47 A47 H47 toV47 (by kernel_rfl) (fun v => by kernel_rfl)
  (fun l v h => by
    unfold ofV47 at h
    split at h
    · cases h; rfl
    · cases h)
  [0] (fun v => ⟨ff47 v, q47 v, fun h => by
    unfold f47 at h; unfold ff47
    simp only [Tr.ok, n_f47_0, n_f47_2, true_and, and_true, forall_const, implies_true] at h ⊢
    try exact h, qg47 v, qd47 v⟩)
theorem qdd47 (v : V47) : (f47 v).get.2.2 = [0] := by
  rw [← qg47, Tr.map_get]; rfl
noncomputable def nice47 : List (Nat × CF th.R) := (47, lift C47) :: nice45
theorem nok47 : NiceOk Try.prog th nice47 := ⟨lift_sound s47, nok45⟩
end Go.Sx.S

section
namespace Go.Sx.So
/-! ### Spans in their order: plain Lean -/
abbrev Sp := Int × Int
/-- By rising From, then falling To. -/
def le (x y : Sp) : Bool := decide (x.1 < y.1) || (decide (x.1 = y.1) && decide (y.2 ≤ x.2))
theorem le_iff {x y : Sp} : le x y = true ↔ x.1 < y.1 ∨ (x.1 = y.1 ∧ y.2 ≤ x.2) := by simp [le]
theorem le_refl (x : Sp) : le x x = true := le_iff.2 (.inr ⟨rfl, Int.le_refl _⟩)
theorem le_trans (x y z : Sp) (h : le x y = true) (k : le y z = true) : le x z = true := by rw [le_iff] at *; omega
theorem le_total (x y : Sp) : (le x y || le y x) = true := by
  rw [Bool.or_eq_true, le_iff, le_iff]; omega
theorem le_antisymm {x y : Sp} (h : le x y = true) (k : le y x = true) : x = y := by
  rw [le_iff] at *
  exact Prod.ext (by omega) (by omega)
/-- A stretch of a row. -/
def seg (E : Nat → Sp) (a n : Nat) : List Sp := (List.range n).map fun i => E (a + i)
theorem seg_length (E : Nat → Sp) (a n : Nat) : (seg E a n).length = n := by simp [seg]
theorem seg_get {E : Nat → Sp} {a n i : Nat} (h : i < n) : (seg E a n)[i]? = some (E (a + i)) := by simp [seg, h]
theorem seg_congr {E F : Nat → Sp} {a n : Nat} (h : ∀ i, i < n → E (a + i) = F (a + i)) : seg E a n = seg F a n :=
  List.map_congr_left fun i hi => h i (List.mem_range.1 hi)
theorem seg_add (E : Nat → Sp) (a n m : Nat) : seg E a (n + m) = seg E a n ++ seg E (a + n) m := by
  apply List.ext_getElem?
  intro i
  by_cases h : i < n
  · rw [List.getElem?_append_left (by rw [seg_length]; exact h), seg_get h, seg_get (by omega)]
  · rw [List.getElem?_append_right (by rw [seg_length]; omega), seg_length]
    by_cases h2 : i < n + m
    · rw [seg_get h2, seg_get (by omega)]
      congr 2; omega
    · rw [List.getElem?_eq_none (by rw [seg_length]; omega), List.getElem?_eq_none (by rw [seg_length]; omega)]
/-- The row with a stretch sorted. -/
def srt (E : Nat → Sp) (a b : Nat) : Nat → Sp := fun j => if a ≤ j ∧ j < b then ((seg E a (b - a)).mergeSort le).getD (j - a) (0, 0) else E j
/-- The same but for a stretch, and there the same ones, each as often. -/
structure PermIn (a b : Nat) (E F : Nat → Sp) : Prop where
  out : ∀ j, ¬ (a ≤ j ∧ j < b) → F j = E j
  perm : (seg F a (b - a)).Perm (seg E a (b - a))
def SortedIn (a b : Nat) (E : Nat → Sp) : Prop := ∀ i j, a ≤ i → i ≤ j → j < b → le (E i) (E j) = true
theorem PermIn.refl (a b : Nat) (E : Nat → Sp) : PermIn a b E E := ⟨fun _ _ => rfl, List.Perm.refl _⟩
theorem PermIn.trans {a b : Nat} {E F G : Nat → Sp} (h : PermIn a b E F) (k : PermIn a b F G) : PermIn a b E G :=
  ⟨fun j hj => (k.out j hj).trans (h.out j hj), k.perm.trans h.perm⟩
/-- A permutation of a part is one of the whole. -/
theorem PermIn.mono {a b a' b' : Nat} {E F : Nat → Sp} (h : PermIn a b E F) (ha : a' ≤ a) (hab : a ≤ b) (hb : b ≤ b') : PermIn a' b' E F := by
  refine ⟨fun j hj => h.out j (fun k => hj ⟨by omega, by omega⟩), ?_⟩
  have e : b' - a' = (a - a') + ((b - a) + (b' - b)) := by omega
  rw [e, seg_add, seg_add, seg_add, seg_add]
  have e1 : a' + (a - a') = a := by omega
  have e2 : a + (b - a) = b := by omega
  rw [e1, e2]
  have h1 : seg F a' (a - a') = seg E a' (a - a') := seg_congr fun i hi => h.out _ (by omega)
  have h2 : seg F b (b' - b) = seg E b (b' - b) := seg_congr fun i hi => h.out _ (by omega)
  rw [h1, h2]
  exact (List.Perm.append_right _ h.perm).append_left _
theorem seg_pairwise {a b : Nat} {E : Nat → Sp} (h : SortedIn a b E) : List.Pairwise (fun x y => le x y = true) (seg E a (b - a)) := by
  rw [List.pairwise_iff_getElem]
  intro i j hi hj hij
  simp only [seg, List.getElem_map, List.getElem_range]
  rw [seg_length] at hi hj
  exact h (a + i) (a + j) (by omega) (by omega) (by omega)
theorem of_pairwise {a b : Nat} {E : Nat → Sp} (h : List.Pairwise (fun x y => le x y = true) (seg E a (b - a))) : SortedIn a b E := by
  intro i j h1 h2 h3
  rcases Nat.eq_or_lt_of_le h2 with rfl | h2
  · exact le_refl _
  · rw [List.pairwise_iff_getElem] at h
    have := h (i - a) (j - a) (by rw [seg_length]; omega) (by rw [seg_length]; omega) (by omega)
    simp only [seg, List.getElem_map, List.getElem_range] at this
    rwa [show a + (i - a) = i by omega, show a + (j - a) = j by omega] at this
theorem srt_seg (E : Nat → Sp) (a b : Nat) : seg (srt E a b) a (b - a) = (seg E a (b - a)).mergeSort le := by
  have hl : ((seg E a (b - a)).mergeSort le).length = b - a := by rw [List.length_mergeSort, seg_length]
  apply List.ext_getElem?
  intro i
  by_cases h : i < b - a
  · rw [seg_get h]
    simp only [srt]
    rw [if_pos ⟨by omega, by omega⟩, show a + i - a = i by omega, List.getD_eq_getElem?_getD, List.getElem?_eq_getElem (by omega)]
    rfl
  · rw [List.getElem?_eq_none (by rw [seg_length]; omega), List.getElem?_eq_none (by omega)]
theorem srt_perm (E : Nat → Sp) (a b : Nat) : PermIn a b E (srt E a b) :=
  ⟨fun j hj => by simp only [srt]; rw [if_neg hj], by rw [srt_seg]; exact List.mergeSort_perm _ _⟩
theorem srt_sorted (E : Nat → Sp) (a b : Nat) : SortedIn a b (srt E a b) :=
  of_pairwise (by rw [srt_seg]; exact List.pairwise_mergeSort le_trans le_total _)
/-- There is one sorted row alone. -/
theorem srt_unique {E F : Nat → Sp} {a b : Nat} (h : PermIn a b E F) (hs : SortedIn a b F) : F = srt E a b := by
  have hp : (seg F a (b - a)).Perm (seg (srt E a b) a (b - a)) := h.perm.trans (srt_perm E a b).perm.symm
  have e : seg F a (b - a) = seg (srt E a b) a (b - a) := hp.eq_of_pairwise (fun x y _ _ h k => le_antisymm h k) (seg_pairwise hs) (seg_pairwise (srt_sorted E a b))
  funext j
  by_cases hj : a ≤ j ∧ j < b
  · have h1 := seg_get (E := F) (a := a) (n := b - a) (i := j - a) (by omega)
    have h2 := seg_get (E := srt E a b) (a := a) (n := b - a) (i := j - a) (by omega)
    rw [e, h2] at h1
    simp only [Option.some.injEq] at h1
    rw [show a + (j - a) = j by omega] at h1
    exact h1.symm
  · rw [h.out j hj, (srt_perm E a b).out j hj]
/-- Two places swapped. -/
def swp (E : Nat → Sp) (i j : Nat) : Nat → Sp := fun k => if k = i then E j else if k = j then E i else E k
theorem swp_perm {E : Nat → Sp} {a b i j : Nat} (h1 : a ≤ i) (h2 : i < b) (h3 : a ≤ j) (h4 : j < b) : PermIn a b E (swp E i j) := by
  refine ⟨fun k hk => ?_, ?_⟩
  · simp only [swp]
    rw [if_neg (by omega), if_neg (by omega)]
  · have hi : i - a < (seg E a (b - a)).length := by rw [seg_length]; omega
    have hj : j - a < (seg E a (b - a)).length := by rw [seg_length]; omega
    have hp := List.set_set_perm hi hj
    have e : seg (swp E i j) a (b - a) = ((seg E a (b - a)).set (i - a) (seg E a (b - a))[j - a]).set (j - a) (seg E a (b - a))[i - a] := by
      have gi : (seg E a (b - a))[i - a] = E i := by simp only [seg, List.getElem_map, List.getElem_range]; congr 1; omega
      have gj : (seg E a (b - a))[j - a] = E j := by simp only [seg, List.getElem_map, List.getElem_range]; congr 1; omega
      rw [gi, gj]
      apply List.ext_getElem?
      intro k
      by_cases hk : k < b - a
      · rw [seg_get hk]
        simp only [swp, List.getElem?_set, List.length_set, seg_length]
        by_cases k2 : j - a = k
        · subst k2
          by_cases k1 : a + (j - a) = i
          · have : i = j := by omega
            subst this
            simp [k1, hk]
          · have : a + (j - a) = j := by omega
            simp [k1, this, hk]
            intro e; rw [e]
        · by_cases k1 : i - a = k
          · subst k1
            have e1 : a + (i - a) = i := by omega
            simp [e1, k2, hk]
          · have e1 : ¬ a + k = i := by omega
            have e2 : ¬ a + k = j := by omega
            simp [e1, e2, k1, k2, seg_get hk]
      · rw [List.getElem?_eq_none (by rw [seg_length]; omega), List.getElem?_eq_none (by simp only [List.length_set, seg_length]; omega)]
    rw [e]
    exact hp
end Go.Sx.So

end

section
namespace Go.Sx
open Go Go.RowKit
/-! Plain facts for what the program prints -/
theorem cndB {α : Type} (c : Bool) (a b : α) : cnd c a b = if c = true then a else b := by cases c <;> rfl
theorem beqT {j k : Nat} : (Nat.beq j k = true) = (j = k) := propext ⟨Nat.eq_of_beq_eq_true, fun h => by subst h; simp⟩
theorem bltT {j k : Nat} : (Nat.blt j k = true) = (j < k) := propext (by simp [Nat.blt_eq])
theorem cnd_neg (c : Bool) : cnd c false true = !c := by cases c <;> rfl
theorem cnd_and (c d : Bool) : cnd c d false = (c && d) := by cases c <;> rfl
theorem cnd_or (c d : Bool) : cnd c true d = (c || d) := by cases c <;> rfl
theorem cnd_id (c : Bool) : cnd c true false = c := by cases c <;> rfl
theorem wi {x : Int} (h1 : -9223372036854775808 ≤ x) (h2 : x < 9223372036854775808) : IntKind.i64.wrap x = x := wrap_i64 h1 h2
end Go.Sx
namespace Go.Sx
/-- A loop by an invariant, a measure, and what is true at its end. -/
theorem LT.post {R S : Type} [Inhabited S] {f : S → Tr (Rs R S)} (V Q : S → Prop) (μ : S → Nat)
    (h : ∀ s, V s → (f s).ok ∧ (((∃ ex sl hp, (f s).get = .out ex sl hp) ∧ Q s) ∨ ∃ s', (f s).get = .on s' ∧ V s' ∧ μ s' < μ s)) {s : S} (hs : V s) : LT f s ∧ Q (lastS f s) := by
  generalize hm : μ s = m
  induction m using Nat.strongRecOn generalizing s with
  | ind m ih =>
    obtain ⟨h1, ⟨⟨ex, sl, hp, h2⟩, h5⟩ | ⟨s', h2, h3, h4⟩⟩ := h s hs
    · exact ⟨.out h1 h2, by rw [lastS_out h2]; exact h5⟩
    · obtain ⟨a, b⟩ := ih (μ s') (by omega) h3 rfl
      exact ⟨.on h1 h2 a, by rw [lastS_on h2]; exact b⟩
/-- Two columns as a row of pairs. -/
def sp (F G : Nat → Int) : Nat → So.Sp := fun j => (F j, G j)
end Go.Sx

end

section
namespace Go.Sx.So
/-- Two stretches swapped. -/
def swpR (E : Nat → Sp) (a b n : Nat) : Nat → Sp := fun j => if a ≤ j ∧ j < a + n then E (b + (j - a)) else if b ≤ j ∧ j < b + n then E (a + (j - b)) else E j
theorem swpR_zero (E : Nat → Sp) (a b : Nat) : swpR E a b 0 = E := by
  funext j; unfold swpR; rw [if_neg (by omega), if_neg (by omega)]
theorem swpR_succ (E : Nat → Sp) {a b n : Nat} (h : a + n < b) : swp (swpR E a b n) (a + n) (b + n) = swpR E a b (n + 1) := by
  funext j
  have e1 : swpR E a b n (a + n) = E (a + n) := by unfold swpR; rw [if_neg (by omega), if_neg (by omega)]
  have e2 : swpR E a b n (b + n) = E (b + n) := by unfold swpR; rw [if_neg (by omega), if_neg (by omega)]
  unfold swp
  rw [e1, e2]
  unfold swpR
  by_cases h1 : j = a + n
  · subst h1; rw [if_pos rfl, if_pos (by omega)]; congr 1; omega
  · by_cases h2 : j = b + n
    · subst h2; rw [if_neg h1, if_pos rfl, if_neg (by omega), if_pos (by omega)]; congr 1; omega
    · rw [if_neg h1, if_neg h2]
      by_cases h3 : a ≤ j ∧ j < a + n
      · rw [if_pos h3, if_pos (by omega)]
      · by_cases h4 : b ≤ j ∧ j < b + n
        · rw [if_neg h3, if_pos h4, if_neg (by omega), if_pos (by omega)]
        · rw [if_neg h3, if_neg h4, if_neg (by omega), if_neg (by omega)]
theorem swpR_perm (E : Nat → Sp) {a b n x y : Nat} (h : a + n ≤ b) (hx : x ≤ a) (hy : b + n ≤ y) : PermIn x y E (swpR E a b n) := by
  induction n with
  | zero => rw [swpR_zero]; exact .refl _ _ _
  | succ n ih =>
    rw [← swpR_succ E (by omega)]
    exact (ih (by omega) (by omega)).trans (swp_perm (by omega) (by omega) (by omega) (by omega))
/-- What lies from m on, ahead of what lies from lo on. -/
def rot (E : Nat → Sp) (lo m hi : Nat) : Nat → Sp := fun j => if lo ≤ j ∧ j < lo + (hi - m) then E (m + (j - lo)) else if lo + (hi - m) ≤ j ∧ j < hi then E (j - (hi - m)) else E j
theorem rot_eq (E : Nat → Sp) {m i : Nat} (h : i ≤ m) : swpR E (m - i) m i = rot E (m - i) m (m + i) := by
  funext j
  unfold swpR rot
  by_cases h1 : m - i ≤ j ∧ j < m
  · rw [if_pos (by omega), if_pos (by omega)]
  · by_cases h2 : m ≤ j ∧ j < m + i
    · rw [if_neg (by omega), if_pos h2, if_neg (by omega), if_pos (by omega)]; congr 1; omega
    · rw [if_neg (by omega), if_neg h2, if_neg (by omega), if_neg (by omega)]
theorem rot_gt (E : Nat → Sp) {m i j : Nat} (hi : i ≤ m) (h : j < i) (hj : 0 < j) : rot (swpR E (m - i) m j) (m - (i - j)) m (m + j) = rot E (m - i) m (m + j) := by
  funext k
  have a1 : m + j - m = j := by omega
  obtain ⟨lo, rfl⟩ : ∃ lo, m = lo + i := ⟨m - i, by omega⟩
  obtain ⟨d, rfl⟩ : ∃ d, i = j + d := ⟨i - j, by omega⟩
  have e1 : lo + (j + d) - (j + d) = lo := by omega
  have e2 : lo + (j + d) - (j + d - j) = lo + j := by omega
  simp only [swpR, rot, a1, e1, e2]
  grind
theorem rot_lt (E : Nat → Sp) {m i j : Nat} (hi : i ≤ m) (h : i < j) (hj : 0 < i) : rot (swpR E (m - i) (m + j - i) i) (m - i) m (m + (j - i)) = rot E (m - i) m (m + j) := by
  funext k
  obtain ⟨lo, rfl⟩ : ∃ lo, m = lo + i := ⟨m - i, by omega⟩
  obtain ⟨d, rfl⟩ : ∃ d, j = i + d := ⟨j - i, by omega⟩
  have e1 : lo + i - i = lo := by omega
  have e2 : lo + i + (i + d) - i = lo + i + d := by omega
  have e3 : lo + i + (i + d - i) - (lo + i) = d := by omega
  have e4 : lo + i + (i + d) - (lo + i) = i + d := by omega
  have e5 : i + d - i = d := by omega
  simp only [swpR, rot, e1, e2, e3, e4, e5]
  grind
/-! Insertion -/
def SB (a i j : Nat) (E : Nat → Sp) : Prop := a ≤ j ∧ j ≤ i ∧ (∀ x y, a ≤ x → x ≤ y → y ≤ i → x ≠ j → y ≠ j → le (E x) (E y) = true) ∧ ∀ k, j < k → k ≤ i → le (E j) (E k) = true
theorem SB_start {a i : Nat} {E : Nat → Sp} (h : SortedIn a i E) (hi : a ≤ i) : SB a i i E :=
  ⟨hi, Nat.le_refl _, fun x y h1 h2 h3 _ h5 => h x y h1 h2 (by omega), fun k h1 h2 => by omega⟩
theorem SB_step {a i j : Nat} {E : Nat → Sp} (h : SB a i j E) (hj : a < j) (hl : le (E j) (E (j - 1)) = true) : SB a i (j - 1) (swp E (j - 1) j) := by
  obtain ⟨h1, h2, h3, h4⟩ := h
  refine ⟨by omega, by omega, ?_, ?_⟩
  · intro x y g1 g2 g3 g4 g5
    have ex : swp E (j - 1) j x = if x = j then E (j - 1) else E x := by simp only [swp]; rw [if_neg g4]
    have ey : swp E (j - 1) j y = if y = j then E (j - 1) else E y := by simp only [swp]; rw [if_neg g5]
    rw [ex, ey]
    split
    · split
      · exact le_refl _
      · exact h3 (j - 1) y (by omega) (by omega) g3 (by omega) (by omega)
    · split
      · exact h3 x (j - 1) g1 (by omega) (by omega) (by omega) (by omega)
      · exact h3 x y g1 g2 g3 (by omega) (by omega)
  · intro k g1 g2
    have e1 : swp E (j - 1) j (j - 1) = E j := by simp [swp]
    have e2 : swp E (j - 1) j k = if k = j then E (j - 1) else E k := by simp only [swp]; rw [if_neg (by omega)]
    rw [e1, e2]
    split
    · exact hl
    · exact h4 k (by omega) g2
theorem SB_end {a i j : Nat} {E : Nat → Sp} (h : SB a i j E) (he : j = a ∨ le (E (j - 1)) (E j) = true) : SortedIn a (i + 1) E := by
  obtain ⟨h1, h2, h3, h4⟩ := h
  intro x y g1 g2 g3
  by_cases ex : x = j
  · subst ex
    by_cases ey : y = x
    · subst ey; exact le_refl _
    · exact h4 y (by omega) (by omega)
  · by_cases ey : y = j
    · subst ey
      rcases he with rfl | he
      · omega
      · by_cases e1 : x = y - 1
        · subst e1; exact he
        · exact le_trans _ _ _ (h3 x (y - 1) g1 (by omega) (by omega) ex (by omega)) he
    · exact h3 x y g1 g2 (by omega) ex ey
theorem SortedIn.one {a : Nat} {E : Nat → Sp} : SortedIn a (a + 1) E := fun i j h1 h2 h3 => by
  have : i = j := by omega
  subst this; exact le_refl _
theorem SortedIn.mono {a b a' b' : Nat} {E : Nat → Sp} (h : SortedIn a b E) (h1 : a ≤ a') (h2 : b' ≤ b) : SortedIn a' b' E := fun i j g1 g2 g3 => h i j (by omega) g2 (by omega)
theorem le_false {x y : Sp} : le x y = false → le y x = true := fun h => by have := le_total x y; rw [h] at this; simpa using this
end Go.Sx.So

end

namespace Go.Sx.S
open Go Go.Sx Go.Proofs Go.RowKit So
def pre47 (v : V47) : Prop := 0 ≤ v.a ∧ 0 ≤ v.n ∧ v.a + v.n ≤ v.b ∧ v.b + v.n ≤ v.L ∧ v.L ≤ v.M ∧ v.L < 4611686018427387904
noncomputable def f47n (v : V47) : Tr (Fin th.R) := .need (pre47 v) (.leaf (.tup [], [.row 27 2 v.M (fun j => [.int .u64 (swpR (sp v.F v.G) v.a.toNat v.b.toNat v.n.toNat j).1, .int .u64 (swpR (sp v.F v.G) v.a.toNat v.b.toNat v.n.toNat j).2])], [0]))
theorem l47 (v : V47) (h : pre47 v) : LT (r47_0 (P47_0.mk v.L v.a v.b v.n v.M)) (S47_0.mk 0 v.F v.G) ∧
    sp (lastS (r47_0 (P47_0.mk v.L v.a v.b v.n v.M)) (S47_0.mk 0 v.F v.G)).F0_0 (lastS (r47_0 (P47_0.mk v.L v.a v.b v.n v.M)) (S47_0.mk 0 v.F v.G)).F0_1 = swpR (sp v.F v.G) v.a.toNat v.b.toNat v.n.toNat := by
  obtain ⟨h1, h2, h3, h4, h5, h6⟩ := h
  refine LT.post (fun s : S47_0 => 0 ≤ s.x10 ∧ s.x10 ≤ v.n ∧ sp s.F0_0 s.F0_1 = swpR (sp v.F v.G) v.a.toNat v.b.toNat s.x10.toNat) (fun s : S47_0 => sp s.F0_0 s.F0_1 = swpR (sp v.F v.G) v.a.toNat v.b.toNat v.n.toNat) (fun s : S47_0 => (v.n - s.x10).toNat) ?_ ⟨by simp, by simpa using h2, by simp [swpR_zero]⟩
  rintro ⟨c, F, G⟩ ⟨g1, g2, g3⟩
  simp only at g1 g2 g3
  have w1 : IntKind.i64.wrap (v.a + c) = v.a + c := wi (by omega) (by omega)
  have w2 : IntKind.i64.wrap (v.b + c) = v.b + c := wi (by omega) (by omega)
  have w3 : IntKind.i64.wrap (c + 1) = c + 1 := wi (by omega) (by omega)
  simp only [r47_0, e47_0_0, e47_0_2, e47_0_4, Tr.ok, Tr.get, w1, w2, w3]
  by_cases hc : c < v.n
  · have e0 : cnd (decide (c < v.n)) false true = false := by simp [hc, cnd]
    rw [e0]
    refine ⟨⟨(fun e => by cases e), fun _ => ⟨by simp; omega, trivial⟩⟩, .inr ⟨_, rfl, ⟨by simp; omega, by simp; omega, ?_⟩, by simp; omega⟩⟩
    have e1 : (c + 1).toNat = c.toNat + 1 := by omega
    simp only [e1]
    rw [← swpR_succ _ (by omega), ← g3]
    funext j
    have e2 : 0 + (v.b + c).toNat = v.b.toNat + c.toNat := by omega
    have e3 : 0 + (v.a + c).toNat = v.a.toNat + c.toNat := by omega
    simp only [sp, swp, e47_0_5, e47_0_6, w1, w2, cndB, beqT, e2, e3]
    split <;> split <;> first | rfl | (exfalso; omega)
  · have e0 : cnd (decide (c < v.n)) false true = true := by simp [hc, cnd]
    rw [e0]
    have : c = v.n := by omega
    subst this
    exact ⟨⟨fun _ => trivial, (fun e => by cases e)⟩, .inl ⟨⟨_, _, _, rfl⟩, g3⟩⟩
noncomputable def C47n : CF th.R := fnC d47 ofV47 f47n
theorem s47n : Sound Try.prog th 47 C47n := fnC_refine s47 fun v h => by
  obtain ⟨hp, _⟩ := h
  obtain ⟨a, b⟩ := l47 v hp
  refine ⟨⟨a, trivial⟩, rfl, rfl, .cons (.row fun j _ => ?_) .nil, Nat.le_refl _⟩
  have e := congrFun b j
  have e1 := congrArg Prod.fst e
  have e2 := congrArg Prod.snd e
  simp only [sp] at e1 e2
  simp only [f47_3, f47_4, ← e1, ← e2]
  rfl
noncomputable def nice47n : List (Nat × CF th.R) := (47, lift C47n) :: nice45
theorem nok47n : NiceOk Try.prog th nice47n := ⟨lift_sound s47n, nok45⟩
end Go.Sx.S

namespace Go.Sx.S
open Go Go.Sx Go.Proofs Go.RowKit
set_option maxRecDepth 100000
structure V46 where
  L : Nat
  a : Int
  m : Int
  b : Int
  M : Nat
  F : Nat → Int
  G : Nat → Int
def A46 (v : V46) : List SV := [.slc 0 2 0 v.L, .int .i64 v.a, .int .i64 v.m, .int .i64 v.b, .fn 33 []]
def H46 (v : V46) : List (HO th.R) := [.row 27 2 v.M (fun j => [.int .u64 (v.F j), .int .u64 (v.G j)])]
def toV46 (v : V46) : List (Vl th.R) := [.n v.L, .i v.a, .i v.m, .i v.b, .n v.M, .c v.F, .c v.G]
def ofV46 : List (Vl th.R) → Option V46
  | [.n L, .i a, .i m, .i b, .n M, .c F, .c G] => some ⟨L, a, m, b, M, F, G⟩
  | _ => none
def d46 : Ft := ⟨[.slc0 0 2, .int .i64, .int .i64, .int .i64, .fn 33 []], [.rowc 27 [.int .u64, .int .u64]]⟩
structure P46_0 where
  n0 : Nat
  x2 : Int
structure S46_0 where
  x10 : Int
  x11 : Int
  N0 : Nat
  F0_0 : Nat → Int
  F0_1 : Nat → Int
instance : Inhabited S46_0 := ⟨⟨0, 0, 0, fun _ => 0, fun _ => 0⟩⟩
def I46_0 (p : P46_0) (s : S46_0) : St th.R := ⟨[some (.slc 0 2 0 p.n0), none, some (.int .i64 p.x2), none, some (.fn 33 []), none, none, none, none, none, some (.int .i64 s.x10), some (.int .i64 s.x11), none, none, none, none, none, none, none, none, none, none, none, none, none, none, none, none, none, none, none, none, none, none, none, none, none, none, none, none, none, none, none, none, none, none, none, none, none, none, none, none, none, none, none, none, none, none], [.row 27 2 s.N0 (fun j => [.int .u64 (s.F0_0 j), .int .u64 (s.F0_1 j)])], [], []⟩
def d46_0 : Lp := ⟨⟨58, [(0, .slc0 0 2), (2, .int .i64), (4, .fn 33 []), (10, .int .i64), (11, .int .i64)], [.rowc 27 [.int .u64, .int .u64]]⟩, [], 1, [0], [0, 2, 4, 10], []⟩
def toV46_0 (p : P46_0) (s : S46_0) : List (Vl th.R) := [.n p.n0, .i p.x2, .i s.x10, .i s.x11, .n s.N0, .c s.F0_0, .c s.F0_1]
def ofV46_0 : List (Vl th.R) → Option (P46_0 × S46_0)
  | [.n n0, .i x2, .i x10, .i x11, .n N0, .c F0_0, .c F0_1] => some (⟨n0, x2⟩, ⟨x10, x11, N0, F0_0, F0_1⟩)
  | _ => none
noncomputable def e46_0_0 (p : P46_0) (s : S46_0) : (Bool) := cnd (s.x10 != s.x11) false true
noncomputable def e46_0_1 (p : P46_0) (s : S46_0) : (Prop) := ∀ (i : Nat), scpL (0:Nat) ((fun (j : Nat) => [SV.int IntKind.u64 (s.F0_0 j), SV.int IntKind.u64 (s.F0_1 j)]) i) = true
noncomputable def e46_0_2 (p : P46_0) (s : S46_0) : (Prop) := decide (s.x10 > s.x11) = true → ∀ (i : Nat), scpL (0:Nat) ((fun (j : Nat) => [SV.int IntKind.u64 (s.F0_0 j), SV.int IntKind.u64 (s.F0_1 j)]) i) = true
noncomputable def e46_0_3 (p : P46_0) (s : S46_0) : (Prop) := decide (s.x10 > s.x11) = true → ∀ (i : Nat), i < s.N0 → (fun (j : Nat) => [SV.int IntKind.u64 (s.F0_0 j), SV.int IntKind.u64 (s.F0_1 j)]) i = elC (fun (j : Nat) => [SV.int IntKind.u64 (s.F0_0 j), SV.int IntKind.u64 (s.F0_1 j)]) (0:Nat) [Ck.int IntKind.u64, Ck.int IntKind.u64] i
noncomputable def e46_0_4 (p : P46_0) (s : S46_0) : (Prop) := decide (s.x10 > s.x11) = true → pre47 (V47.mk p.n0 (IntKind.i64.wrap (p.x2 - s.x10)) p.x2 s.x11 s.N0 s.F0_0 s.F0_1)
noncomputable def e46_0_5 (p : P46_0) (s : S46_0) : (Prop) := decide (s.x10 > s.x11) = true → ∀ (i : Nat), scpL (0:Nat) ((fun (j : Nat) => [SV.int IntKind.u64 (So.swpR (sp s.F0_0 s.F0_1) (IntKind.i64.wrap (p.x2 - s.x10)).toNat p.x2.toNat s.x11.toNat j).fst, SV.int IntKind.u64 (So.swpR (sp s.F0_0 s.F0_1) (IntKind.i64.wrap (p.x2 - s.x10)).toNat p.x2.toNat s.x11.toNat j).snd]) i) = true
noncomputable def e46_0_6 (p : P46_0) (s : S46_0) : (Prop) := decide (s.x10 > s.x11) = false → ∀ (i : Nat), scpL (0:Nat) ((fun (j : Nat) => [SV.int IntKind.u64 (s.F0_0 j), SV.int IntKind.u64 (s.F0_1 j)]) i) = true
noncomputable def e46_0_7 (p : P46_0) (s : S46_0) : (Prop) := decide (s.x10 > s.x11) = false → ∀ (i : Nat), i < s.N0 → (fun (j : Nat) => [SV.int IntKind.u64 (s.F0_0 j), SV.int IntKind.u64 (s.F0_1 j)]) i = elC (fun (j : Nat) => [SV.int IntKind.u64 (s.F0_0 j), SV.int IntKind.u64 (s.F0_1 j)]) (0:Nat) [Ck.int IntKind.u64, Ck.int IntKind.u64] i
noncomputable def e46_0_8 (p : P46_0) (s : S46_0) : (Prop) := decide (s.x10 > s.x11) = false → pre47 (V47.mk p.n0 (IntKind.i64.wrap (p.x2 - s.x10)) (IntKind.i64.wrap (IntKind.i64.wrap (p.x2 + s.x11) - s.x10)) s.x10 s.N0 s.F0_0 s.F0_1)
noncomputable def e46_0_9 (p : P46_0) (s : S46_0) : (Prop) := decide (s.x10 > s.x11) = false → ∀ (i : Nat), scpL (0:Nat) ((fun (j : Nat) => [SV.int IntKind.u64 (So.swpR (sp s.F0_0 s.F0_1) (IntKind.i64.wrap (p.x2 - s.x10)).toNat (IntKind.i64.wrap (IntKind.i64.wrap (p.x2 + s.x11) - s.x10)).toNat s.x10.toNat j).fst, SV.int IntKind.u64 (So.swpR (sp s.F0_0 s.F0_1) (IntKind.i64.wrap (p.x2 - s.x10)).toNat (IntKind.i64.wrap (IntKind.i64.wrap (p.x2 + s.x11) - s.x10)).toNat s.x10.toNat j).snd]) i) = true
noncomputable def e46_0_10 (p : P46_0) (s : S46_0) : (Prop) := (∀ (i : Nat), scpL (0:Nat) ((fun (i : Nat) => rowSet (decide (s.x10 > s.x11)) ((fun (j : Nat) => [SV.int IntKind.u64 (So.swpR (sp s.F0_0 s.F0_1) (IntKind.i64.wrap (p.x2 - s.x10)).toNat p.x2.toNat s.x11.toNat j).fst, SV.int IntKind.u64 (So.swpR (sp s.F0_0 s.F0_1) (IntKind.i64.wrap (p.x2 - s.x10)).toNat p.x2.toNat s.x11.toNat j).snd]) i) ((fun (j : Nat) => [SV.int IntKind.u64 (So.swpR (sp s.F0_0 s.F0_1) (IntKind.i64.wrap (p.x2 - s.x10)).toNat (IntKind.i64.wrap (IntKind.i64.wrap (p.x2 + s.x11) - s.x10)).toNat s.x10.toNat j).fst, SV.int IntKind.u64 (So.swpR (sp s.F0_0 s.F0_1) (IntKind.i64.wrap (p.x2 - s.x10)).toNat (IntKind.i64.wrap (IntKind.i64.wrap (p.x2 + s.x11) - s.x10)).toNat s.x10.toNat j).snd]) i)) i) = true) ∧ ∀ (i : Nat), i < cnd (decide (s.x10 > s.x11)) s.N0 s.N0 → (fun (i : Nat) => rowSet (decide (s.x10 > s.x11)) ((fun (j : Nat) => [SV.int IntKind.u64 (So.swpR (sp s.F0_0 s.F0_1) (IntKind.i64.wrap (p.x2 - s.x10)).toNat p.x2.toNat s.x11.toNat j).fst, SV.int IntKind.u64 (So.swpR (sp s.F0_0 s.F0_1) (IntKind.i64.wrap (p.x2 - s.x10)).toNat p.x2.toNat s.x11.toNat j).snd]) i) ((fun (j : Nat) => [SV.int IntKind.u64 (So.swpR (sp s.F0_0 s.F0_1) (IntKind.i64.wrap (p.x2 - s.x10)).toNat (IntKind.i64.wrap (IntKind.i64.wrap (p.x2 + s.x11) - s.x10)).toNat s.x10.toNat j).fst, SV.int IntKind.u64 (So.swpR (sp s.F0_0 s.F0_1) (IntKind.i64.wrap (p.x2 - s.x10)).toNat (IntKind.i64.wrap (IntKind.i64.wrap (p.x2 + s.x11) - s.x10)).toNat s.x10.toNat j).snd]) i)) i = elC (fun (i : Nat) => rowSet (decide (s.x10 > s.x11)) ((fun (j : Nat) => [SV.int IntKind.u64 (So.swpR (sp s.F0_0 s.F0_1) (IntKind.i64.wrap (p.x2 - s.x10)).toNat p.x2.toNat s.x11.toNat j).fst, SV.int IntKind.u64 (So.swpR (sp s.F0_0 s.F0_1) (IntKind.i64.wrap (p.x2 - s.x10)).toNat p.x2.toNat s.x11.toNat j).snd]) i) ((fun (j : Nat) => [SV.int IntKind.u64 (So.swpR (sp s.F0_0 s.F0_1) (IntKind.i64.wrap (p.x2 - s.x10)).toNat (IntKind.i64.wrap (IntKind.i64.wrap (p.x2 + s.x11) - s.x10)).toNat s.x10.toNat j).fst, SV.int IntKind.u64 (So.swpR (sp s.F0_0 s.F0_1) (IntKind.i64.wrap (p.x2 - s.x10)).toNat (IntKind.i64.wrap (IntKind.i64.wrap (p.x2 + s.x11) - s.x10)).toNat s.x10.toNat j).snd]) i)) (0:Nat) [Ck.int IntKind.u64, Ck.int IntKind.u64] i
noncomputable def e46_0_11 (p : P46_0) (s : S46_0) : (Int) := cnd (decide (s.x10 > s.x11)) (IntKind.i64.wrap (s.x10 - s.x11)) s.x10
noncomputable def e46_0_12 (p : P46_0) (s : S46_0) : (Int) := cnd (decide (s.x10 > s.x11)) s.x11 (IntKind.i64.wrap (s.x11 - s.x10))
noncomputable def e46_0_13 (p : P46_0) (s : S46_0) : (Nat) := cnd (decide (s.x10 > s.x11)) s.N0 s.N0
noncomputable def e46_0_14 (p : P46_0) (s : S46_0) : Nat → (Int) := fun j => cnd (decide (s.x10 > s.x11)) (So.swpR (sp s.F0_0 s.F0_1) (IntKind.i64.wrap (p.x2 - s.x10)).toNat p.x2.toNat s.x11.toNat j).fst (So.swpR (sp s.F0_0 s.F0_1) (IntKind.i64.wrap (p.x2 - s.x10)).toNat (IntKind.i64.wrap (IntKind.i64.wrap (p.x2 + s.x11) - s.x10)).toNat s.x10.toNat j).fst
noncomputable def e46_0_15 (p : P46_0) (s : S46_0) : Nat → (Int) := fun j => cnd (decide (s.x10 > s.x11)) (So.swpR (sp s.F0_0 s.F0_1) (IntKind.i64.wrap (p.x2 - s.x10)).toNat p.x2.toNat s.x11.toNat j).snd (So.swpR (sp s.F0_0 s.F0_1) (IntKind.i64.wrap (p.x2 - s.x10)).toNat (IntKind.i64.wrap (IntKind.i64.wrap (p.x2 + s.x11) - s.x10)).toNat s.x10.toNat j).snd
theorem n_e46_0_1 (p : P46_0) (s : S46_0) : e46_0_1 p s := by
  unfold e46_0_1
  first
    | (intros; rfl)
    | (intro i; rfl)
    | (intro i _; rfl)
    | (intro _ i; rfl)
    | (intro _ i _; rfl)
    | (refine ⟨?_, ?_⟩ <;> intro i <;> rfl)
    | (refine ⟨?_, ?_, ?_⟩ <;> intro i <;> rfl)
    | (refine ⟨?_, ?_⟩ <;> intro i _ <;> rfl)
    | (repeat' apply And.intro) <;> first | (intro i; rfl) | (intro i _; rfl) | (intro i h; exact absurd h (Nat.not_lt_zero i)) | (intro i; exact scpL_rowSet (by rfl) (by rfl)) | (intro i; exact scpL_rowEl (by kernel_rfl) _)
    | (intros; (repeat' apply And.intro) <;> intros <;> first | rfl | (exact absurd (by assumption) (Nat.not_lt_zero _)))
    | omega
    | decide
theorem n_e46_0_2 (p : P46_0) (s : S46_0) : e46_0_2 p s := by
  unfold e46_0_2
  first
    | (intros; rfl)
    | (intro i; rfl)
    | (intro i _; rfl)
    | (intro _ i; rfl)
    | (intro _ i _; rfl)
    | (refine ⟨?_, ?_⟩ <;> intro i <;> rfl)
    | (refine ⟨?_, ?_, ?_⟩ <;> intro i <;> rfl)
    | (refine ⟨?_, ?_⟩ <;> intro i _ <;> rfl)
    | (repeat' apply And.intro) <;> first | (intro i; rfl) | (intro i _; rfl) | (intro i h; exact absurd h (Nat.not_lt_zero i)) | (intro i; exact scpL_rowSet (by rfl) (by rfl)) | (intro i; exact scpL_rowEl (by kernel_rfl) _)
    | (intros; (repeat' apply And.intro) <;> intros <;> first | rfl | (exact absurd (by assumption) (Nat.not_lt_zero _)))
    | omega
    | decide
theorem n_e46_0_3 (p : P46_0) (s : S46_0) : e46_0_3 p s := by
  unfold e46_0_3
  first
    | (intros; rfl)
    | (intro i; rfl)
    | (intro i _; rfl)
    | (intro _ i; rfl)
    | (intro _ i _; rfl)
    | (refine ⟨?_, ?_⟩ <;> intro i <;> rfl)
    | (refine ⟨?_, ?_, ?_⟩ <;> intro i <;> rfl)
    | (refine ⟨?_, ?_⟩ <;> intro i _ <;> rfl)
    | (repeat' apply And.intro) <;> first | (intro i; rfl) | (intro i _; rfl) | (intro i h; exact absurd h (Nat.not_lt_zero i)) | (intro i; exact scpL_rowSet (by rfl) (by rfl)) | (intro i; exact scpL_rowEl (by kernel_rfl) _)
    | (intros; (repeat' apply And.intro) <;> intros <;> first | rfl | (exact absurd (by assumption) (Nat.not_lt_zero _)))
    | omega
    | decide
theorem n_e46_0_5 (p : P46_0) (s : S46_0) : e46_0_5 p s := by
  unfold e46_0_5
  first
    | (intros; rfl)
    | (intro i; rfl)
    | (intro i _; rfl)
    | (intro _ i; rfl)
    | (intro _ i _; rfl)
    | (refine ⟨?_, ?_⟩ <;> intro i <;> rfl)
    | (refine ⟨?_, ?_, ?_⟩ <;> intro i <;> rfl)
    | (refine ⟨?_, ?_⟩ <;> intro i _ <;> rfl)
    | (repeat' apply And.intro) <;> first | (intro i; rfl) | (intro i _; rfl) | (intro i h; exact absurd h (Nat.not_lt_zero i)) | (intro i; exact scpL_rowSet (by rfl) (by rfl)) | (intro i; exact scpL_rowEl (by kernel_rfl) _)
    | (intros; (repeat' apply And.intro) <;> intros <;> first | rfl | (exact absurd (by assumption) (Nat.not_lt_zero _)))
    | omega
    | decide
theorem n_e46_0_6 (p : P46_0) (s : S46_0) : e46_0_6 p s := by
  unfold e46_0_6
  first
    | (intros; rfl)
    | (intro i; rfl)
    | (intro i _; rfl)
    | (intro _ i; rfl)
    | (intro _ i _; rfl)
    | (refine ⟨?_, ?_⟩ <;> intro i <;> rfl)
    | (refine ⟨?_, ?_, ?_⟩ <;> intro i <;> rfl)
    | (refine ⟨?_, ?_⟩ <;> intro i _ <;> rfl)
    | (repeat' apply And.intro) <;> first | (intro i; rfl) | (intro i _; rfl) | (intro i h; exact absurd h (Nat.not_lt_zero i)) | (intro i; exact scpL_rowSet (by rfl) (by rfl)) | (intro i; exact scpL_rowEl (by kernel_rfl) _)
    | (intros; (repeat' apply And.intro) <;> intros <;> first | rfl | (exact absurd (by assumption) (Nat.not_lt_zero _)))
    | omega
    | decide
theorem n_e46_0_7 (p : P46_0) (s : S46_0) : e46_0_7 p s := by
  unfold e46_0_7
  first
    | (intros; rfl)
    | (intro i; rfl)
    | (intro i _; rfl)
    | (intro _ i; rfl)
    | (intro _ i _; rfl)
    | (refine ⟨?_, ?_⟩ <;> intro i <;> rfl)
    | (refine ⟨?_, ?_, ?_⟩ <;> intro i <;> rfl)
    | (refine ⟨?_, ?_⟩ <;> intro i _ <;> rfl)
    | (repeat' apply And.intro) <;> first | (intro i; rfl) | (intro i _; rfl) | (intro i h; exact absurd h (Nat.not_lt_zero i)) | (intro i; exact scpL_rowSet (by rfl) (by rfl)) | (intro i; exact scpL_rowEl (by kernel_rfl) _)
    | (intros; (repeat' apply And.intro) <;> intros <;> first | rfl | (exact absurd (by assumption) (Nat.not_lt_zero _)))
    | omega
    | decide
theorem n_e46_0_9 (p : P46_0) (s : S46_0) : e46_0_9 p s := by
  unfold e46_0_9
  first
    | (intros; rfl)
    | (intro i; rfl)
    | (intro i _; rfl)
    | (intro _ i; rfl)
    | (intro _ i _; rfl)
    | (refine ⟨?_, ?_⟩ <;> intro i <;> rfl)
    | (refine ⟨?_, ?_, ?_⟩ <;> intro i <;> rfl)
    | (refine ⟨?_, ?_⟩ <;> intro i _ <;> rfl)
    | (repeat' apply And.intro) <;> first | (intro i; rfl) | (intro i _; rfl) | (intro i h; exact absurd h (Nat.not_lt_zero i)) | (intro i; exact scpL_rowSet (by rfl) (by rfl)) | (intro i; exact scpL_rowEl (by kernel_rfl) _)
    | (intros; (repeat' apply And.intro) <;> intros <;> first | rfl | (exact absurd (by assumption) (Nat.not_lt_zero _)))
    | omega
    | decide
theorem n_e46_0_10 (p : P46_0) (s : S46_0) : e46_0_10 p s := by
  unfold e46_0_10
  first
    | (intros; rfl)
    | (intro i; rfl)
    | (intro i _; rfl)
    | (intro _ i; rfl)
    | (intro _ i _; rfl)
    | (refine ⟨?_, ?_⟩ <;> intro i <;> rfl)
    | (refine ⟨?_, ?_, ?_⟩ <;> intro i <;> rfl)
    | (refine ⟨?_, ?_⟩ <;> intro i _ <;> rfl)
    | (repeat' apply And.intro) <;> first | (intro i; rfl) | (intro i _; rfl) | (intro i h; exact absurd h (Nat.not_lt_zero i)) | (intro i; exact scpL_rowSet (by rfl) (by rfl)) | (intro i; exact scpL_rowEl (by kernel_rfl) _)
    | (intros; (repeat' apply And.intro) <;> intros <;> first | rfl | (exact absurd (by assumption) (Nat.not_lt_zero _)))
    | omega
    | decide
noncomputable def rf46_0 (p : P46_0) (s : S46_0) : Tr (Rs th.R S46_0) := (Tr.ite (e46_0_0 p s) (Tr.need (e46_0_1 p s) (Tr.leaf (Rs.out (Ex.exit ((0:Nat))) (List.cons (Option.some (SV.slc ((0:Nat)) ((2 : Nat)) ((0:Nat)) (p.n0))) (none :: (List.cons (Option.some (SV.int (IntKind.i64) (p.x2))) (none :: (List.cons (Option.some (SV.fn ((33 : Nat)) [])) (none :: (none :: (none :: (none :: (none :: (List.cons (Option.some (SV.int (IntKind.i64) (s.x10))) (none :: (none :: (none :: (none :: (none :: (none :: (none :: (none :: (none :: (none :: (none :: (none :: (none :: (none :: (none :: (none :: (none :: (none :: (none :: (none :: (none :: (none :: (none :: (none :: (none :: (none :: (none :: (none :: (none :: (none :: (none :: (none :: (none :: (none :: (none :: (none :: (none :: (none :: (none :: (none :: (none :: (none :: (none :: (none :: (none :: (none :: (none :: [])))))))))))))))))))))))))))))))))))))))))))))))))))))))))) (List.cons (HO.row ((27 : Nat)) ((2 : Nat)) (s.N0) (fun j => (List.cons (SV.int (IntKind.u64) (s.F0_0 j)) (List.cons (SV.int (IntKind.u64) (s.F0_1 j)) [])))) [])))) (Tr.need (e46_0_2 p s) (Tr.need (e46_0_3 p s) (Tr.need (e46_0_4 p s) (Tr.need (e46_0_5 p s) (Tr.need (e46_0_6 p s) (Tr.need (e46_0_7 p s) (Tr.need (e46_0_8 p s) (Tr.need (e46_0_9 p s) (Tr.need (e46_0_10 p s) (Tr.leaf (Rs.on (S46_0.mk ((e46_0_11 p s)) ((e46_0_12 p s)) ((e46_0_13 p s)) ((fun j => (e46_0_14 p s j))) ((fun j => (e46_0_15 p s j))))))))))))))))
noncomputable def r46_0 (p : P46_0) (s : S46_0) : Tr (Rs th.R S46_0) := (Tr.ite (e46_0_0 p s) (Tr.leaf (Rs.out (Ex.exit ((0:Nat))) (List.cons (Option.some (SV.slc ((0:Nat)) ((2 : Nat)) ((0:Nat)) (p.n0))) (none :: (List.cons (Option.some (SV.int (IntKind.i64) (p.x2))) (none :: (List.cons (Option.some (SV.fn ((33 : Nat)) [])) (none :: (none :: (none :: (none :: (none :: (List.cons (Option.some (SV.int (IntKind.i64) (s.x10))) (none :: (none :: (none :: (none :: (none :: (none :: (none :: (none :: (none :: (none :: (none :: (none :: (none :: (none :: (none :: (none :: (none :: (none :: (none :: (none :: (none :: (none :: (none :: (none :: (none :: (none :: (none :: (none :: (none :: (none :: (none :: (none :: (none :: (none :: (none :: (none :: (none :: (none :: (none :: (none :: (none :: (none :: (none :: (none :: (none :: (none :: (none :: [])))))))))))))))))))))))))))))))))))))))))))))))))))))))))) (List.cons (HO.row ((27 : Nat)) ((2 : Nat)) (s.N0) (fun j => (List.cons (SV.int (IntKind.u64) (s.F0_0 j)) (List.cons (SV.int (IntKind.u64) (s.F0_1 j)) [])))) []))) (Tr.need (e46_0_4 p s) (Tr.need (e46_0_8 p s) (Tr.leaf (Rs.on (S46_0.mk ((e46_0_11 p s)) ((e46_0_12 p s)) ((e46_0_13 p s)) ((fun j => (e46_0_14 p s j))) ((fun j => (e46_0_15 p s j)))))))))
noncomputable def E46_0 : St th.R → Out th := evCode th Try.prog (auto th Try.prog nice47n [] 20) (autoH [] [] [] [] : Hints th) (lpAt Try.prog 46 0)
theorem B46_0 : CodeSound th Try.prog (lpAt Try.prog 46 0) E46_0 := evCode_sound (T := th) (P := Try.prog) (tbl := (auto th Try.prog nice47n [] 20)) (auto_sound (nice := nice47n) (us := []) nok47n 20) (autoH [] [] [] [] : Hints th) _ (LoopsOk_mem (fun _ => rfl) _ fun b hb L hL => by cases hL)
noncomputable def L46_0 : St th.R → Out th := loopL d46_0 ofV46_0 r46_0
theorem h1_46_0 (p : P46_0) (s : S46_0) : bld d46_0.tm (toV46_0 p s) = some (I46_0 p s) := by kernel_rfl
theorem h2_46_0 (l : List (Vl th.R)) (p : P46_0) (s : S46_0) (h : ofV46_0 l = some (p, s)) : l = toV46_0 p s := by
  unfold ofV46_0 at h
  split at h
  · cases h; rfl
  · cases h
theorem h3_46_0 (p : P46_0) (s : S46_0) : cvE d46_0 (E46_0 (I46_0 p s)) = some ((rf46_0 p s).map (Rs.map (toV46_0 p))) := by kernel_rfl
theorem h3g_46_0 (p : P46_0) (s : S46_0) : (rf46_0 p s).get = (r46_0 p s).get := by kernel_rfl
theorem h4_46_0 (p : P46_0) (s s1 : S46_0) : outH d46_0.dirt d46_0.n0 (r46_0 p s) = repH (maskH d46_0.dirt 0 d46_0.n0 (I46_0 p s1).heap) (r46_0 p s) := by kernel_rfl
theorem ls46_0 : CodeSound th Try.prog (.loop (lpAt Try.prog 46 0)) L46_0 := loopL_sound B46_0 d46_0 I46_0 toV46_0 (by kernel_rfl) h1_46_0 h2_46_0
  (fun p s => ⟨(rf46_0 p s).map (Rs.map (toV46_0 p)), h3_46_0 p s, fun h => by
    rw [Tr.map_ok]
    unfold r46_0 at h; unfold rf46_0
    simp only [Tr.ok, n_e46_0_1, n_e46_0_2, n_e46_0_3, n_e46_0_5, n_e46_0_6, n_e46_0_7, n_e46_0_9, n_e46_0_10, true_and, and_true, forall_const, implies_true] at h ⊢
    try exact h, by rw [Tr.map_get, h3g_46_0 p s]⟩) h4_46_0
theorem ok46 : LoopsOk th Try.prog (autoH [(2, L46_0)] [] [] [] : Hints th) (bodyOf Try.prog 46) := autoH_ok (bs := [lpAt Try.prog 46 0]) (by kernel_rfl) fun b hb L hL => by
  simp only [List.mem_cons, List.not_mem_nil, or_false] at hb
  rcases hb with rfl
  · have e : lookL [(2, L46_0)] (firstReg (lpAt Try.prog 46 0)) = some L46_0 := by kernel_rfl
    rw [e] at hL; cases hL
    exact ls46_0
noncomputable def f46_0 (v : V46) : (Prop) := ∀ (i : Nat), i < v.M → (fun (j : Nat) => [SV.int IntKind.u64 (v.F j), SV.int IntKind.u64 (v.G j)]) i = elC (fun (j : Nat) => [SV.int IntKind.u64 (v.F j), SV.int IntKind.u64 (v.G j)]) (0:Nat) [Ck.int IntKind.u64, Ck.int IntKind.u64] i
noncomputable def f46_1 (v : V46) : (Prop) := LT (r46_0 (P46_0.mk v.L v.m)) (S46_0.mk (IntKind.i64.wrap (v.m - v.a)) (IntKind.i64.wrap (v.b - v.m)) v.M v.F v.G)
noncomputable def f46z0 (v : V46) : S46_0 := lastS (r46_0 (P46_0.mk v.L v.m)) (S46_0.mk (IntKind.i64.wrap (v.m - v.a)) (IntKind.i64.wrap (v.b - v.m)) v.M v.F v.G)
noncomputable def f46_2 (v : V46) : (Prop) := ∀ (i : Nat), scpL (0:Nat) ((fun (j : Nat) => [SV.int IntKind.u64 ((f46z0 v).F0_0 j), SV.int IntKind.u64 ((f46z0 v).F0_1 j)]) i) = true
noncomputable def f46_3 (v : V46) : (Prop) := ∀ (i : Nat), i < (f46z0 v).N0 → (fun (j : Nat) => [SV.int IntKind.u64 ((f46z0 v).F0_0 j), SV.int IntKind.u64 ((f46z0 v).F0_1 j)]) i = elC (fun (j : Nat) => [SV.int IntKind.u64 ((f46z0 v).F0_0 j), SV.int IntKind.u64 ((f46z0 v).F0_1 j)]) (0:Nat) [Ck.int IntKind.u64, Ck.int IntKind.u64] i
noncomputable def f46_4 (v : V46) : (Prop) := pre47 (V47.mk v.L (IntKind.i64.wrap (v.m - (f46z0 v).x10)) v.m (f46z0 v).x10 (f46z0 v).N0 (f46z0 v).F0_0 (f46z0 v).F0_1)
noncomputable def f46_5 (v : V46) : (Prop) := ∀ (i : Nat), scpL (0:Nat) ((fun (j : Nat) => [SV.int IntKind.u64 (So.swpR (sp (f46z0 v).F0_0 (f46z0 v).F0_1) (IntKind.i64.wrap (v.m - (f46z0 v).x10)).toNat v.m.toNat (f46z0 v).x10.toNat j).fst, SV.int IntKind.u64 (So.swpR (sp (f46z0 v).F0_0 (f46z0 v).F0_1) (IntKind.i64.wrap (v.m - (f46z0 v).x10)).toNat v.m.toNat (f46z0 v).x10.toNat j).snd]) i) = true
noncomputable def f46_6 (v : V46) : (Prop) := (∀ (i : Nat), scpL (1 : Nat) ((fun (j : Nat) => [SV.int IntKind.u64 (So.swpR (sp (f46z0 v).F0_0 (f46z0 v).F0_1) (IntKind.i64.wrap (v.m - (f46z0 v).x10)).toNat v.m.toNat (f46z0 v).x10.toNat j).fst, SV.int IntKind.u64 (So.swpR (sp (f46z0 v).F0_0 (f46z0 v).F0_1) (IntKind.i64.wrap (v.m - (f46z0 v).x10)).toNat v.m.toNat (f46z0 v).x10.toNat j).snd]) i) = true) ∧ ∀ (i : Nat), scpL (1 : Nat) ((fun (j : Nat) => [SV.int IntKind.u64 (So.swpR (sp (f46z0 v).F0_0 (f46z0 v).F0_1) (IntKind.i64.wrap (v.m - (f46z0 v).x10)).toNat v.m.toNat (f46z0 v).x10.toNat j).fst, SV.int IntKind.u64 (So.swpR (sp (f46z0 v).F0_0 (f46z0 v).F0_1) (IntKind.i64.wrap (v.m - (f46z0 v).x10)).toNat v.m.toNat (f46z0 v).x10.toNat j).snd]) i) = true
noncomputable def f46_7 (v : V46) : (Nat) := (f46z0 v).N0
noncomputable def f46_8 (v : V46) : Nat → (Int) := fun j => (So.swpR (sp (f46z0 v).F0_0 (f46z0 v).F0_1) (IntKind.i64.wrap (v.m - (f46z0 v).x10)).toNat v.m.toNat (f46z0 v).x10.toNat j).fst
noncomputable def f46_9 (v : V46) : Nat → (Int) := fun j => (So.swpR (sp (f46z0 v).F0_0 (f46z0 v).F0_1) (IntKind.i64.wrap (v.m - (f46z0 v).x10)).toNat v.m.toNat (f46z0 v).x10.toNat j).snd
theorem n_f46_0 (v : V46) : f46_0 v := by
  unfold f46_0
  first
    | (intros; rfl)
    | (intro i; rfl)
    | (intro i _; rfl)
    | (intro _ i; rfl)
    | (intro _ i _; rfl)
    | (refine ⟨?_, ?_⟩ <;> intro i <;> rfl)
    | (refine ⟨?_, ?_, ?_⟩ <;> intro i <;> rfl)
    | (refine ⟨?_, ?_⟩ <;> intro i _ <;> rfl)
    | (repeat' apply And.intro) <;> first | (intro i; rfl) | (intro i _; rfl) | (intro i h; exact absurd h (Nat.not_lt_zero i)) | (intro i; exact scpL_rowSet (by rfl) (by rfl)) | (intro i; exact scpL_rowEl (by kernel_rfl) _)
    | (intros; (repeat' apply And.intro) <;> intros <;> first | rfl | (exact absurd (by assumption) (Nat.not_lt_zero _)))
    | omega
    | decide
theorem n_f46_2 (v : V46) : f46_2 v := by
  unfold f46_2
  first
    | (intros; rfl)
    | (intro i; rfl)
    | (intro i _; rfl)
    | (intro _ i; rfl)
    | (intro _ i _; rfl)
    | (refine ⟨?_, ?_⟩ <;> intro i <;> rfl)
    | (refine ⟨?_, ?_, ?_⟩ <;> intro i <;> rfl)
    | (refine ⟨?_, ?_⟩ <;> intro i _ <;> rfl)
    | (repeat' apply And.intro) <;> first | (intro i; rfl) | (intro i _; rfl) | (intro i h; exact absurd h (Nat.not_lt_zero i)) | (intro i; exact scpL_rowSet (by rfl) (by rfl)) | (intro i; exact scpL_rowEl (by kernel_rfl) _)
    | (intros; (repeat' apply And.intro) <;> intros <;> first | rfl | (exact absurd (by assumption) (Nat.not_lt_zero _)))
    | omega
    | decide
theorem n_f46_3 (v : V46) : f46_3 v := by
  unfold f46_3
  first
    | (intros; rfl)
    | (intro i; rfl)
    | (intro i _; rfl)
    | (intro _ i; rfl)
    | (intro _ i _; rfl)
    | (refine ⟨?_, ?_⟩ <;> intro i <;> rfl)
    | (refine ⟨?_, ?_, ?_⟩ <;> intro i <;> rfl)
    | (refine ⟨?_, ?_⟩ <;> intro i _ <;> rfl)
    | (repeat' apply And.intro) <;> first | (intro i; rfl) | (intro i _; rfl) | (intro i h; exact absurd h (Nat.not_lt_zero i)) | (intro i; exact scpL_rowSet (by rfl) (by rfl)) | (intro i; exact scpL_rowEl (by kernel_rfl) _)
    | (intros; (repeat' apply And.intro) <;> intros <;> first | rfl | (exact absurd (by assumption) (Nat.not_lt_zero _)))
    | omega
    | decide
theorem n_f46_5 (v : V46) : f46_5 v := by
  unfold f46_5
  first
    | (intros; rfl)
    | (intro i; rfl)
    | (intro i _; rfl)
    | (intro _ i; rfl)
    | (intro _ i _; rfl)
    | (refine ⟨?_, ?_⟩ <;> intro i <;> rfl)
    | (refine ⟨?_, ?_, ?_⟩ <;> intro i <;> rfl)
    | (refine ⟨?_, ?_⟩ <;> intro i _ <;> rfl)
    | (repeat' apply And.intro) <;> first | (intro i; rfl) | (intro i _; rfl) | (intro i h; exact absurd h (Nat.not_lt_zero i)) | (intro i; exact scpL_rowSet (by rfl) (by rfl)) | (intro i; exact scpL_rowEl (by kernel_rfl) _)
    | (intros; (repeat' apply And.intro) <;> intros <;> first | rfl | (exact absurd (by assumption) (Nat.not_lt_zero _)))
    | omega
    | decide
theorem n_f46_6 (v : V46) : f46_6 v := by
  unfold f46_6
  first
    | (intros; rfl)
    | (intro i; rfl)
    | (intro i _; rfl)
    | (intro _ i; rfl)
    | (intro _ i _; rfl)
    | (refine ⟨?_, ?_⟩ <;> intro i <;> rfl)
    | (refine ⟨?_, ?_, ?_⟩ <;> intro i <;> rfl)
    | (refine ⟨?_, ?_⟩ <;> intro i _ <;> rfl)
    | (repeat' apply And.intro) <;> first | (intro i; rfl) | (intro i _; rfl) | (intro i h; exact absurd h (Nat.not_lt_zero i)) | (intro i; exact scpL_rowSet (by rfl) (by rfl)) | (intro i; exact scpL_rowEl (by kernel_rfl) _)
    | (intros; (repeat' apply And.intro) <;> intros <;> first | rfl | (exact absurd (by assumption) (Nat.not_lt_zero _)))
    | omega
    | decide
noncomputable def ff46 (v : V46) : Tr (Fin th.R) := (Tr.need (f46_0 v) (Tr.need (f46_1 v) (Tr.need (f46_2 v) (Tr.need (f46_3 v) (Tr.need (f46_4 v) (Tr.need (f46_5 v) (Tr.need (f46_6 v) (Tr.leaf (Prod.mk (SV.tup []) (Prod.mk (List.cons (HO.row ((27 : Nat)) ((2 : Nat)) (f46_7 v) (fun j => (List.cons (SV.int (IntKind.u64) (f46_8 v j)) (List.cons (SV.int (IntKind.u64) (f46_9 v j)) [])))) []) (List.cons ((0:Nat)) (List.cons ((0:Nat)) []))))))))))))
noncomputable def f46 (v : V46) : Tr (Fin th.R) := (Tr.need (f46_1 v) (Tr.need (f46_4 v) (Tr.leaf (Prod.mk (SV.tup []) (Prod.mk (List.cons (HO.row ((27 : Nat)) ((2 : Nat)) (f46_7 v) (fun j => (List.cons (SV.int (IntKind.u64) (f46_8 v j)) (List.cons (SV.int (IntKind.u64) (f46_9 v j)) [])))) []) ([0]))))))
noncomputable def C46 : CF th.R := fnC d46 ofV46 (f46 )
theorem q46 (v : V46) : (evFn th Try.prog (auto th Try.prog nice47n [] 20) (autoH [(2, L46_0)] [] [] [] : Hints th) 46) (A46 v) (H46 v) = some (ff46 v) := by kernel_rfl
theorem qg46 (v : V46) : ((ff46 v).map (setD [0])).get = (f46 v).get := by kernel_rfl
theorem qd46 (v : V46) : allD 1 [0] (ff46 v) = true := by kernel_rfl
theorem s46 : Sound Try.prog th 46 (C46 ) := fnC_sound (evFn_sound' (T := th) (P := Try.prog) (tbl := (auto th Try.prog nice47n [] 20)) (auto_sound (nice := nice47n) (us := []) nok47n 20) (H := (autoH [(2, L46_0)] [] [] [] : Hints th)) (k := 46) (fnLoops ok46)) d46 A46 H46 toV46 (by kernel_rfl) (fun v => by kernel_rfl)
  (fun l v h => by
    unfold ofV46 at h
    split at h
    · cases h; rfl
    · cases h)
  [0] (fun v => ⟨ff46 v, q46 v, fun h => by
    unfold f46 at h; unfold ff46
    simp only [Tr.ok, n_f46_0, n_f46_2, n_f46_3, n_f46_5, n_f46_6, true_and, and_true, forall_const, implies_true] at h ⊢
    try exact h, qg46 v, qd46 v⟩)
theorem qdd46 (v : V46) : (f46 v).get.2.2 = [0] := by
  rw [← qg46, Tr.map_get]; rfl
noncomputable def nice46 : List (Nat × CF th.R) := (46, lift C46) :: nice47n
theorem nok46 : NiceOk Try.prog th nice46 := ⟨lift_sound s46, nok47n⟩
end Go.Sx.S

namespace Go.Sx.S
open Go Go.Sx Go.Proofs Go.RowKit So
/-- A row of pairs as the engine has it. -/
noncomputable def rowP (M : Nat) (E : Nat → Sp) : HO th.R := .row 27 2 M (fun j => [.int .u64 (E j).1, .int .u64 (E j).2])
def pre46 (v : V46) : Prop := 0 ≤ v.a ∧ v.a < v.m ∧ v.m < v.b ∧ v.b ≤ v.L ∧ v.L ≤ v.M ∧ v.L < 4611686018427387904
noncomputable def f46n (v : V46) : Tr (Fin th.R) := .need (pre46 v) (.leaf (.tup [], [rowP v.M (rot (sp v.F v.G) v.a.toNat v.m.toNat v.b.toNat)], [0]))
theorem l46 (v : V46) (h : pre46 v) : f46_1 v ∧ f46_4 v ∧ (f46z0 v).N0 = v.M ∧ swpR (sp (f46z0 v).F0_0 (f46z0 v).F0_1) (v.m - (f46z0 v).x10).toNat v.m.toNat (f46z0 v).x10.toNat = rot (sp v.F v.G) v.a.toNat v.m.toNat v.b.toNat ∧ IntKind.i64.wrap (v.m - (f46z0 v).x10) = v.m - (f46z0 v).x10 := by
  obtain ⟨h1, h2, h3, h4, h5, h6⟩ := h
  let Q : S46_0 → Prop := fun s => ∃ i : Nat, 1 ≤ i ∧ s.x10 = i ∧ (i : Int) ≤ v.m - v.a ∧ (i : Int) ≤ v.b - v.m ∧ s.N0 = v.M ∧ rot (sp s.F0_0 s.F0_1) (v.m.toNat - i) v.m.toNat (v.m.toNat + i) = rot (sp v.F v.G) v.a.toNat v.m.toNat v.b.toNat
  have key : f46_1 v ∧ Q (f46z0 v) := by
    unfold f46_1 f46z0
    refine LT.post (fun s : S46_0 => ∃ i j : Nat, 1 ≤ i ∧ 1 ≤ j ∧ s.x10 = i ∧ s.x11 = j ∧ (i : Int) ≤ v.m - v.a ∧ (j : Int) ≤ v.b - v.m ∧ s.N0 = v.M ∧ rot (sp s.F0_0 s.F0_1) (v.m.toNat - i) v.m.toNat (v.m.toNat + j) = rot (sp v.F v.G) v.a.toNat v.m.toNat v.b.toNat) Q (fun s : S46_0 => s.x10.toNat + s.x11.toNat) ?_ ?_
    · rintro ⟨x, y, N, F, G⟩ ⟨i, j, g1, g2, g3, g4, g5, g6, g7, g8⟩
      simp only at g3 g4 g7 g8
      subst g3 g4 g7
      have w1 : IntKind.i64.wrap (v.m - i) = v.m - i := wi (by omega) (by omega)
      have w2 : IntKind.i64.wrap (v.m + j) = v.m + j := wi (by omega) (by omega)
      have w3 : IntKind.i64.wrap (v.m + j - i) = v.m + j - i := wi (by omega) (by omega)
      have w4 : IntKind.i64.wrap ((i : Int) - j) = (i : Int) - j := wi (by omega) (by omega)
      have w5 : IntKind.i64.wrap ((j : Int) - i) = (j : Int) - i := wi (by omega) (by omega)
      simp only [r46_0, e46_0_0, e46_0_4, e46_0_8, e46_0_11, e46_0_12, e46_0_13, Tr.ok, Tr.get, w1, w2, w3, w4, w5]
      by_cases hc : (i : Int) = j
      · have e0 : cnd ((i : Int) != j) false true = true := by simp [hc, cnd]
        rw [e0]
        have : i = j := by omega
        subst this
        exact ⟨⟨fun _ => trivial, (fun e => by cases e)⟩, .inl ⟨⟨_, _, _, rfl⟩, i, g1, rfl, g5, g6, rfl, g8⟩⟩
      · have e0 : cnd ((i : Int) != j) false true = false := by rw [show ((i : Int) != j) = true from by simpa using hc]; rfl
        rw [e0]
        by_cases hg : (i : Int) > j
        · have e1 : decide ((i : Int) > j) = true := by simpa using hg
          rw [e1]
          refine ⟨⟨(fun e => by cases e), fun _ => ⟨fun _ => ⟨by simp only; omega, by simp only; omega, by simp only; omega, by simp only; omega, by simp only; omega, by simp only; omega⟩, (fun e => by cases e), trivial⟩⟩, .inr ⟨_, rfl, ⟨i - j, j, by omega, by omega, by simp only [cnd]; omega, rfl, by omega, by omega, rfl, ?_⟩, by simp only [cnd]; omega⟩⟩
          rw [← g8, ← rot_gt _ (by omega) (show j < i by omega) (by omega)]
          congr 1
          funext k
          simp only [sp, e46_0_14, e46_0_15, e1, cnd, w1, Int.toNat_natCast]
          rw [show (v.m - (i : Int)).toNat = v.m.toNat - i by omega]
        · have e1 : decide ((i : Int) > j) = false := by simpa using hg
          rw [e1]
          refine ⟨⟨(fun e => by cases e), fun _ => ⟨(fun e => by cases e), fun _ => ⟨by simp only; omega, by simp only; omega, by simp only; omega, by simp only; omega, by simp only; omega, by simp only; omega⟩, trivial⟩⟩, .inr ⟨_, rfl, ⟨i, j - i, by omega, by omega, rfl, by simp only [cnd]; omega, by omega, by omega, rfl, ?_⟩, by simp only [cnd]; omega⟩⟩
          rw [← g8, ← rot_lt _ (by omega) (show i < j by omega) (by omega)]
          congr 1
          funext k
          simp only [sp, e46_0_14, e46_0_15, e1, cnd, w1, w2, w3, Int.toNat_natCast]
          rw [show (v.m - (i : Int)).toNat = v.m.toNat - i by omega, show (v.m + (j : Int) - i).toNat = v.m.toNat + j - i by omega]
    · refine ⟨(v.m - v.a).toNat, (v.b - v.m).toNat, by omega, by omega, ?_, ?_, by omega, by omega, rfl, ?_⟩
      · show IntKind.i64.wrap _ = _
        rw [wi (by omega) (by omega)]; omega
      · show IntKind.i64.wrap _ = _
        rw [wi (by omega) (by omega)]; omega
      · rw [show v.m.toNat - (v.m - v.a).toNat = v.a.toNat by omega, show v.m.toNat + (v.b - v.m).toNat = v.b.toNat by omega]
  obtain ⟨k1, i, k2, k3, k4, k5, k6, k7⟩ := key
  have w1 : IntKind.i64.wrap (v.m - (i : Int)) = v.m - i := wi (by omega) (by omega)
  refine ⟨k1, ?_, k6, ?_, by rw [k3, w1]⟩
  · unfold f46_4
    rw [k3, w1, k6]
    exact ⟨by simp only; omega, by simp only; omega, by simp only; omega, by simp only; omega, by simp only; omega, by simp only; omega⟩
  · rw [k3, ← k7, ← rot_eq _ (by omega), show (v.m - (i : Int)).toNat = v.m.toNat - i by omega, Int.toNat_natCast]
noncomputable def C46n : CF th.R := fnC d46 ofV46 f46n
theorem s46n : Sound Try.prog th 46 C46n := fnC_refine s46 fun v h => by
  obtain ⟨hp, _⟩ := h
  obtain ⟨a, b, c, d, e⟩ := l46 v hp
  refine ⟨⟨a, b, trivial⟩, rfl, rfl, .cons ?_ .nil, Nat.le_refl _⟩
  simp only [f46_7, c]
  refine .row fun j _ => ?_
  simp only [f46_8, f46_9, e, d]
noncomputable def nice46n : List (Nat × CF th.R) := (46, lift C46n) :: nice47n
theorem nok46n : NiceOk Try.prog th nice46n := ⟨lift_sound s46n, nok47n⟩
end Go.Sx.S

namespace Go.Sx.S
open Go Go.Sx Go.Proofs Go.RowKit
set_option maxRecDepth 100000
structure V43 where
  L : Nat
  a : Int
  b : Int
  M : Nat
  F : Nat → Int
  G : Nat → Int
def A43 (v : V43) : List SV := [.slc 0 2 0 v.L, .int .i64 v.a, .int .i64 v.b, .fn 33 []]
def H43 (v : V43) : List (HO th.R) := [.row 27 2 v.M (fun j => [.int .u64 (v.F j), .int .u64 (v.G j)])]
def toV43 (v : V43) : List (Vl th.R) := [.n v.L, .i v.a, .i v.b, .n v.M, .c v.F, .c v.G]
def ofV43 : List (Vl th.R) → Option V43
  | [.n L, .i a, .i b, .n M, .c F, .c G] => some ⟨L, a, b, M, F, G⟩
  | _ => none
def d43 : Ft := ⟨[.slc0 0 2, .int .i64, .int .i64, .fn 33 []], [.rowc 27 [.int .u64, .int .u64]]⟩
structure P43_1 where
  n0 : Nat
  x1 : Int
  x2 : Int
  x8 : Int
  N0 : Nat
structure S43_1 where
  x9 : Int
  F0_0 : Nat → Int
  F0_1 : Nat → Int
instance : Inhabited S43_1 := ⟨⟨0, fun _ => 0, fun _ => 0⟩⟩
def I43_1 (p : P43_1) (s : S43_1) : St th.R := ⟨[some (.slc 0 2 0 p.n0), some (.int .i64 p.x1), some (.int .i64 p.x2), some (.fn 33 []), none, none, none, none, some (.int .i64 p.x8), some (.int .i64 s.x9), none, none, none, none, none, none, none, none, none, none, none, none, none, none, none, none, none, none, none, none, none, none, none, none, none, none, none, none, none, none, none, none, none, none, none, none, none, none, none, none, none, none, none], [.row 27 2 p.N0 (fun j => [.int .u64 (s.F0_0 j), .int .u64 (s.F0_1 j)])], [], []⟩
def d43_1 : Lp := ⟨⟨53, [(0, .slc0 0 2), (1, .int .i64), (2, .int .i64), (3, .fn 33 []), (8, .int .i64), (9, .int .i64)], [.rowc 27 [.int .u64, .int .u64]]⟩, [], 1, [0], [0, 1, 2, 3, 8, 22, 23, 24, 25, 26, 27, 28, 29, 30, 31, 32, 33], []⟩
def toV43_1 (p : P43_1) (s : S43_1) : List (Vl th.R) := [.n p.n0, .i p.x1, .i p.x2, .i p.x8, .i s.x9, .n p.N0, .c s.F0_0, .c s.F0_1]
def ofV43_1 : List (Vl th.R) → Option (P43_1 × S43_1)
  | [.n n0, .i x1, .i x2, .i x8, .i x9, .n N0, .c F0_0, .c F0_1] => some (⟨n0, x1, x2, x8, N0⟩, ⟨x9, F0_0, F0_1⟩)
  | _ => none
noncomputable def e43_1_0 (p : P43_1) (s : S43_1) : (Prop) := (cnd (decide (s.x9 > p.x1)) true false = true → (0 : Int) ≤ s.x9 ∧ s.x9 < (↑p.n0 : Int)) ∧ (cnd (decide (s.x9 > p.x1)) true false = true → (0:Nat) + s.x9.toNat < p.N0) ∧ (cnd (decide (s.x9 > p.x1)) true false = true → (0 : Int) ≤ IntKind.i64.wrap (s.x9 - (1 : Int)) ∧ IntKind.i64.wrap (s.x9 - (1 : Int)) < (↑p.n0 : Int)) ∧ (cnd (decide (s.x9 > p.x1)) true false = true → (0:Nat) + (IntKind.i64.wrap (s.x9 - (1 : Int))).toNat < p.N0)
noncomputable def e43_1_1 (p : P43_1) (s : S43_1) : (Bool) := cnd (cnd (decide (s.x9 > p.x1)) (decide (f33_1 (s.F0_0 ((0:Nat) + s.x9.toNat)) (s.F0_1 ((0:Nat) + s.x9.toNat)) (s.F0_0 ((0:Nat) + (IntKind.i64.wrap (s.x9 - (1 : Int))).toNat)) (s.F0_1 ((0:Nat) + (IntKind.i64.wrap (s.x9 - (1 : Int))).toNat)) < (0 : Int))) false) false true
noncomputable def e43_1_2 (p : P43_1) (s : S43_1) : (Prop) := ∀ (i : Nat), scpL (0:Nat) ((fun (j : Nat) => [SV.int IntKind.u64 (s.F0_0 j), SV.int IntKind.u64 (s.F0_1 j)]) i) = true
noncomputable def e43_1_3 (p : P43_1) (s : S43_1) : (Prop) := (true = true → (0 : Int) ≤ IntKind.i64.wrap (s.x9 - (1 : Int)) ∧ IntKind.i64.wrap (s.x9 - (1 : Int)) < (↑p.n0 : Int)) ∧ (true = true → (0:Nat) + (IntKind.i64.wrap (s.x9 - (1 : Int))).toNat < p.N0) ∧ (true = true → (0 : Int) ≤ s.x9 ∧ s.x9 < (↑p.n0 : Int)) ∧ (true = true → (0:Nat) + s.x9.toNat < p.N0) ∧ (true = true → (0 : Int) ≤ s.x9 ∧ s.x9 < (↑p.n0 : Int)) ∧ ((0:Nat) + s.x9.toNat < p.N0 ∧ (2 : Nat) = (2 : Nat)) ∧ (true = true → (0 : Int) ≤ IntKind.i64.wrap (s.x9 - (1 : Int)) ∧ IntKind.i64.wrap (s.x9 - (1 : Int)) < (↑p.n0 : Int)) ∧ (0:Nat) + (IntKind.i64.wrap (s.x9 - (1 : Int))).toNat < p.N0 ∧ (2 : Nat) = (2 : Nat)
noncomputable def e43_1_4 (p : P43_1) (s : S43_1) : (Prop) := (∀ (i : Nat), scpL (0:Nat) ((fun (j : Nat) => rowSet (j.beq ((0:Nat) + (IntKind.i64.wrap (s.x9 - (1 : Int))).toNat)) (splice ((fun (j : Nat) => rowSet (j.beq ((0:Nat) + s.x9.toNat)) (splice ((fun (j : Nat) => [SV.int IntKind.u64 (s.F0_0 j), SV.int IntKind.u64 (s.F0_1 j)]) ((0:Nat) + s.x9.toNat)) (0:Nat) (SV.agg (List.take (2 : Nat) (List.drop (0:Nat) ((fun (j : Nat) => [SV.int IntKind.u64 (s.F0_0 j), SV.int IntKind.u64 (s.F0_1 j)]) ((0:Nat) + (IntKind.i64.wrap (s.x9 - (1 : Int))).toNat))))).cells) ((fun (j : Nat) => [SV.int IntKind.u64 (s.F0_0 j), SV.int IntKind.u64 (s.F0_1 j)]) j)) ((0:Nat) + (IntKind.i64.wrap (s.x9 - (1 : Int))).toNat)) (0:Nat) (SV.agg (List.take (2 : Nat) (List.drop (0:Nat) ((fun (j : Nat) => [SV.int IntKind.u64 (s.F0_0 j), SV.int IntKind.u64 (s.F0_1 j)]) ((0:Nat) + s.x9.toNat))))).cells) ((fun (j : Nat) => rowSet (j.beq ((0:Nat) + s.x9.toNat)) (splice ((fun (j : Nat) => [SV.int IntKind.u64 (s.F0_0 j), SV.int IntKind.u64 (s.F0_1 j)]) ((0:Nat) + s.x9.toNat)) (0:Nat) (SV.agg (List.take (2 : Nat) (List.drop (0:Nat) ((fun (j : Nat) => [SV.int IntKind.u64 (s.F0_0 j), SV.int IntKind.u64 (s.F0_1 j)]) ((0:Nat) + (IntKind.i64.wrap (s.x9 - (1 : Int))).toNat))))).cells) ((fun (j : Nat) => [SV.int IntKind.u64 (s.F0_0 j), SV.int IntKind.u64 (s.F0_1 j)]) j)) j)) i) = true) ∧ ∀ (i : Nat), i < p.N0 → (fun (j : Nat) => rowSet (j.beq ((0:Nat) + (IntKind.i64.wrap (s.x9 - (1 : Int))).toNat)) (splice ((fun (j : Nat) => rowSet (j.beq ((0:Nat) + s.x9.toNat)) (splice ((fun (j : Nat) => [SV.int IntKind.u64 (s.F0_0 j), SV.int IntKind.u64 (s.F0_1 j)]) ((0:Nat) + s.x9.toNat)) (0:Nat) (SV.agg (List.take (2 : Nat) (List.drop (0:Nat) ((fun (j : Nat) => [SV.int IntKind.u64 (s.F0_0 j), SV.int IntKind.u64 (s.F0_1 j)]) ((0:Nat) + (IntKind.i64.wrap (s.x9 - (1 : Int))).toNat))))).cells) ((fun (j : Nat) => [SV.int IntKind.u64 (s.F0_0 j), SV.int IntKind.u64 (s.F0_1 j)]) j)) ((0:Nat) + (IntKind.i64.wrap (s.x9 - (1 : Int))).toNat)) (0:Nat) (SV.agg (List.take (2 : Nat) (List.drop (0:Nat) ((fun (j : Nat) => [SV.int IntKind.u64 (s.F0_0 j), SV.int IntKind.u64 (s.F0_1 j)]) ((0:Nat) + s.x9.toNat))))).cells) ((fun (j : Nat) => rowSet (j.beq ((0:Nat) + s.x9.toNat)) (splice ((fun (j : Nat) => [SV.int IntKind.u64 (s.F0_0 j), SV.int IntKind.u64 (s.F0_1 j)]) ((0:Nat) + s.x9.toNat)) (0:Nat) (SV.agg (List.take (2 : Nat) (List.drop (0:Nat) ((fun (j : Nat) => [SV.int IntKind.u64 (s.F0_0 j), SV.int IntKind.u64 (s.F0_1 j)]) ((0:Nat) + (IntKind.i64.wrap (s.x9 - (1 : Int))).toNat))))).cells) ((fun (j : Nat) => [SV.int IntKind.u64 (s.F0_0 j), SV.int IntKind.u64 (s.F0_1 j)]) j)) j)) i = elC (fun (j : Nat) => rowSet (j.beq ((0:Nat) + (IntKind.i64.wrap (s.x9 - (1 : Int))).toNat)) (splice ((fun (j : Nat) => rowSet (j.beq ((0:Nat) + s.x9.toNat)) (splice ((fun (j : Nat) => [SV.int IntKind.u64 (s.F0_0 j), SV.int IntKind.u64 (s.F0_1 j)]) ((0:Nat) + s.x9.toNat)) (0:Nat) (SV.agg (List.take (2 : Nat) (List.drop (0:Nat) ((fun (j : Nat) => [SV.int IntKind.u64 (s.F0_0 j), SV.int IntKind.u64 (s.F0_1 j)]) ((0:Nat) + (IntKind.i64.wrap (s.x9 - (1 : Int))).toNat))))).cells) ((fun (j : Nat) => [SV.int IntKind.u64 (s.F0_0 j), SV.int IntKind.u64 (s.F0_1 j)]) j)) ((0:Nat) + (IntKind.i64.wrap (s.x9 - (1 : Int))).toNat)) (0:Nat) (SV.agg (List.take (2 : Nat) (List.drop (0:Nat) ((fun (j : Nat) => [SV.int IntKind.u64 (s.F0_0 j), SV.int IntKind.u64 (s.F0_1 j)]) ((0:Nat) + s.x9.toNat))))).cells) ((fun (j : Nat) => rowSet (j.beq ((0:Nat) + s.x9.toNat)) (splice ((fun (j : Nat) => [SV.int IntKind.u64 (s.F0_0 j), SV.int IntKind.u64 (s.F0_1 j)]) ((0:Nat) + s.x9.toNat)) (0:Nat) (SV.agg (List.take (2 : Nat) (List.drop (0:Nat) ((fun (j : Nat) => [SV.int IntKind.u64 (s.F0_0 j), SV.int IntKind.u64 (s.F0_1 j)]) ((0:Nat) + (IntKind.i64.wrap (s.x9 - (1 : Int))).toNat))))).cells) ((fun (j : Nat) => [SV.int IntKind.u64 (s.F0_0 j), SV.int IntKind.u64 (s.F0_1 j)]) j)) j)) (0:Nat) [Ck.int IntKind.u64, Ck.int IntKind.u64] i
noncomputable def e43_1_5 (p : P43_1) (s : S43_1) : (Int) := IntKind.i64.wrap (s.x9 - (1 : Int))
noncomputable def e43_1_6 (p : P43_1) (s : S43_1) : Nat → (Int) := fun j => cnd (j.beq ((0:Nat) + (IntKind.i64.wrap (s.x9 - (1 : Int))).toNat)) (s.F0_0 ((0:Nat) + s.x9.toNat)) (cnd (j.beq ((0:Nat) + s.x9.toNat)) (s.F0_0 ((0:Nat) + (IntKind.i64.wrap (s.x9 - (1 : Int))).toNat)) (s.F0_0 j))
noncomputable def e43_1_7 (p : P43_1) (s : S43_1) : Nat → (Int) := fun j => cnd (j.beq ((0:Nat) + (IntKind.i64.wrap (s.x9 - (1 : Int))).toNat)) (s.F0_1 ((0:Nat) + s.x9.toNat)) (cnd (j.beq ((0:Nat) + s.x9.toNat)) (s.F0_1 ((0:Nat) + (IntKind.i64.wrap (s.x9 - (1 : Int))).toNat)) (s.F0_1 j))
theorem n_e43_1_2 (p : P43_1) (s : S43_1) : e43_1_2 p s := by
  unfold e43_1_2
  first
    | (intros; rfl)
    | (intro i; rfl)
    | (intro i _; rfl)
    | (intro _ i; rfl)
    | (intro _ i _; rfl)
    | (refine ⟨?_, ?_⟩ <;> intro i <;> rfl)
    | (refine ⟨?_, ?_, ?_⟩ <;> intro i <;> rfl)
    | (refine ⟨?_, ?_⟩ <;> intro i _ <;> rfl)
    | (repeat' apply And.intro) <;> first | (intro i; rfl) | (intro i _; rfl) | (intro i h; exact absurd h (Nat.not_lt_zero i)) | (intro i; exact scpL_rowSet (by rfl) (by rfl)) | (intro i; exact scpL_rowEl (by kernel_rfl) _)
    | (intros; (repeat' apply And.intro) <;> intros <;> first | rfl | (exact absurd (by assumption) (Nat.not_lt_zero _)))
    | omega
    | decide
theorem n_e43_1_4 (p : P43_1) (s : S43_1) : e43_1_4 p s := by
  unfold e43_1_4
  first
    | (intros; rfl)
    | (intro i; rfl)
    | (intro i _; rfl)
    | (intro _ i; rfl)
    | (intro _ i _; rfl)
    | (refine ⟨?_, ?_⟩ <;> intro i <;> rfl)
    | (refine ⟨?_, ?_, ?_⟩ <;> intro i <;> rfl)
    | (refine ⟨?_, ?_⟩ <;> intro i _ <;> rfl)
    | (repeat' apply And.intro) <;> first | (intro i; rfl) | (intro i _; rfl) | (intro i h; exact absurd h (Nat.not_lt_zero i)) | (intro i; exact scpL_rowSet (by rfl) (by rfl)) | (intro i; exact scpL_rowEl (by kernel_rfl) _)
    | (intros; (repeat' apply And.intro) <;> intros <;> first | rfl | (exact absurd (by assumption) (Nat.not_lt_zero _)))
    | omega
    | decide
noncomputable def rf43_1 (p : P43_1) (s : S43_1) : Tr (Rs th.R S43_1) := (Tr.need (e43_1_0 p s) (Tr.ite (e43_1_1 p s) (Tr.need (e43_1_2 p s) (Tr.leaf (Rs.out (Ex.exit ((2 : Nat))) (List.cons (Option.some (SV.slc ((0:Nat)) ((2 : Nat)) ((0:Nat)) (p.n0))) (List.cons (Option.some (SV.int (IntKind.i64) (p.x1))) (List.cons (Option.some (SV.int (IntKind.i64) (p.x2))) (List.cons (Option.some (SV.fn ((33 : Nat)) [])) (none :: (none :: (none :: (none :: (List.cons (Option.some (SV.int (IntKind.i64) (p.x8))) (none :: (none :: (none :: (none :: (none :: (none :: (none :: (none :: (none :: (none :: (none :: (none :: (none :: (none :: (none :: (none :: (none :: (none :: (none :: (none :: (none :: (none :: (none :: (none :: (none :: (none :: (none :: (none :: (none :: (none :: (none :: (none :: (none :: (none :: (none :: (none :: (none :: (none :: (none :: (none :: (none :: (none :: (none :: (none :: []))))))))))))))))))))))))))))))))))))))))))))))))))))) (List.cons (HO.row ((27 : Nat)) ((2 : Nat)) (p.N0) (fun j => (List.cons (SV.int (IntKind.u64) (s.F0_0 j)) (List.cons (SV.int (IntKind.u64) (s.F0_1 j)) [])))) [])))) (Tr.need (e43_1_3 p s) (Tr.need (e43_1_4 p s) (Tr.leaf (Rs.on (S43_1.mk ((e43_1_5 p s)) ((fun j => (e43_1_6 p s j))) ((fun j => (e43_1_7 p s j))))))))))
noncomputable def r43_1 (p : P43_1) (s : S43_1) : Tr (Rs th.R S43_1) := (Tr.need (e43_1_0 p s) (Tr.ite (e43_1_1 p s) (Tr.leaf (Rs.out (Ex.exit ((2 : Nat))) (List.cons (Option.some (SV.slc ((0:Nat)) ((2 : Nat)) ((0:Nat)) (p.n0))) (List.cons (Option.some (SV.int (IntKind.i64) (p.x1))) (List.cons (Option.some (SV.int (IntKind.i64) (p.x2))) (List.cons (Option.some (SV.fn ((33 : Nat)) [])) (none :: (none :: (none :: (none :: (List.cons (Option.some (SV.int (IntKind.i64) (p.x8))) (none :: (none :: (none :: (none :: (none :: (none :: (none :: (none :: (none :: (none :: (none :: (none :: (none :: (none :: (none :: (none :: (none :: (none :: (none :: (none :: (none :: (none :: (none :: (none :: (none :: (none :: (none :: (none :: (none :: (none :: (none :: (none :: (none :: (none :: (none :: (none :: (none :: (none :: (none :: (none :: (none :: (none :: (none :: (none :: []))))))))))))))))))))))))))))))))))))))))))))))))))))) (List.cons (HO.row ((27 : Nat)) ((2 : Nat)) (p.N0) (fun j => (List.cons (SV.int (IntKind.u64) (s.F0_0 j)) (List.cons (SV.int (IntKind.u64) (s.F0_1 j)) [])))) []))) (Tr.need (e43_1_3 p s) (Tr.leaf (Rs.on (S43_1.mk ((e43_1_5 p s)) ((fun j => (e43_1_6 p s j))) ((fun j => (e43_1_7 p s j)))))))))
noncomputable def E43_1 : St th.R → Out th := evCode th Try.prog (auto th Try.prog nice46n [] 20) (autoH [] [] [] [] : Hints th) (lpAt Try.prog 43 1)
theorem B43_1 : CodeSound th Try.prog (lpAt Try.prog 43 1) E43_1 := evCode_sound (T := th) (P := Try.prog) (tbl := (auto th Try.prog nice46n [] 20)) (auto_sound (nice := nice46n) (us := []) nok46n 20) (autoH [] [] [] [] : Hints th) _ (LoopsOk_mem (fun _ => rfl) _ fun b hb L hL => by cases hL)
noncomputable def L43_1 : St th.R → Out th := loopL d43_1 ofV43_1 r43_1
theorem h1_43_1 (p : P43_1) (s : S43_1) : bld d43_1.tm (toV43_1 p s) = some (I43_1 p s) := by kernel_rfl
theorem h2_43_1 (l : List (Vl th.R)) (p : P43_1) (s : S43_1) (h : ofV43_1 l = some (p, s)) : l = toV43_1 p s := by
  unfold ofV43_1 at h
  split at h
  · cases h; rfl
  · cases h
theorem h3_43_1 (p : P43_1) (s : S43_1) : cvE d43_1 (E43_1 (I43_1 p s)) = some ((rf43_1 p s).map (Rs.map (toV43_1 p))) := by kernel_rfl
theorem h3g_43_1 (p : P43_1) (s : S43_1) : (rf43_1 p s).get = (r43_1 p s).get := by kernel_rfl
theorem h4_43_1 (p : P43_1) (s s1 : S43_1) : outH d43_1.dirt d43_1.n0 (r43_1 p s) = repH (maskH d43_1.dirt 0 d43_1.n0 (I43_1 p s1).heap) (r43_1 p s) := by kernel_rfl
theorem ls43_1 : CodeSound th Try.prog (.loop (lpAt Try.prog 43 1)) L43_1 := loopL_sound B43_1 d43_1 I43_1 toV43_1 (by kernel_rfl) h1_43_1 h2_43_1
  (fun p s => ⟨(rf43_1 p s).map (Rs.map (toV43_1 p)), h3_43_1 p s, fun h => by
    rw [Tr.map_ok]
    unfold r43_1 at h; unfold rf43_1
    simp only [Tr.ok, n_e43_1_2, n_e43_1_4, true_and, and_true, forall_const, implies_true] at h ⊢
    try exact h, by rw [Tr.map_get, h3g_43_1 p s]⟩) h4_43_1
structure P43_0 where
  n0 : Nat
  x1 : Int
  x2 : Int
  N0 : Nat
structure S43_0 where
  x8 : Int
  F0_0 : Nat → Int
  F0_1 : Nat → Int
instance : Inhabited S43_0 := ⟨⟨0, fun _ => 0, fun _ => 0⟩⟩
def I43_0 (p : P43_0) (s : S43_0) : St th.R := ⟨[some (.slc 0 2 0 p.n0), some (.int .i64 p.x1), some (.int .i64 p.x2), some (.fn 33 []), none, none, none, none, some (.int .i64 s.x8), none, none, none, none, none, none, none, none, none, none, none, none, none, none, none, none, none, none, none, none, none, none, none, none, none, none, none, none, none, none, none, none, none, none, none, none, none, none, none, none, none, none, none, none], [.row 27 2 p.N0 (fun j => [.int .u64 (s.F0_0 j), .int .u64 (s.F0_1 j)])], [], []⟩
def d43_0 : Lp := ⟨⟨53, [(0, .slc0 0 2), (1, .int .i64), (2, .int .i64), (3, .fn 33 []), (8, .int .i64)], [.rowc 27 [.int .u64, .int .u64]]⟩, [], 1, [0], [], []⟩
def toV43_0 (p : P43_0) (s : S43_0) : List (Vl th.R) := [.n p.n0, .i p.x1, .i p.x2, .i s.x8, .n p.N0, .c s.F0_0, .c s.F0_1]
def ofV43_0 : List (Vl th.R) → Option (P43_0 × S43_0)
  | [.n n0, .i x1, .i x2, .i x8, .n N0, .c F0_0, .c F0_1] => some (⟨n0, x1, x2, N0⟩, ⟨x8, F0_0, F0_1⟩)
  | _ => none
noncomputable def e43_0_0 (p : P43_0) (s : S43_0) : (Bool) := cnd (decide (s.x8 < p.x2)) false true
noncomputable def e43_0_1 (p : P43_0) (s : S43_0) : (Prop) := ∀ (i : Nat), scpL (0:Nat) ((fun (j : Nat) => [SV.int IntKind.u64 (s.F0_0 j), SV.int IntKind.u64 (s.F0_1 j)]) i) = true
noncomputable def e43_0_2 (p : P43_0) (s : S43_0) : (Prop) := ∀ (i : Nat), i < p.N0 → (fun (j : Nat) => [SV.int IntKind.u64 (s.F0_0 j), SV.int IntKind.u64 (s.F0_1 j)]) i = elC (fun (j : Nat) => [SV.int IntKind.u64 (s.F0_0 j), SV.int IntKind.u64 (s.F0_1 j)]) (0:Nat) [Ck.int IntKind.u64, Ck.int IntKind.u64] i
noncomputable def e43_0_3 (p : P43_0) (s : S43_0) : (Prop) := LT (r43_1 (P43_1.mk p.n0 p.x1 p.x2 s.x8 p.N0)) (S43_1.mk s.x8 s.F0_0 s.F0_1)
noncomputable def e43_0_4 (p : P43_0) (s : S43_0) : (Prop) := (∀ (i : Nat), scpL (0:Nat) ((fun (j : Nat) => [SV.int IntKind.u64 ((lastS (r43_1 (P43_1.mk p.n0 p.x1 p.x2 s.x8 p.N0)) (S43_1.mk s.x8 s.F0_0 s.F0_1)).F0_0 j), SV.int IntKind.u64 ((lastS (r43_1 (P43_1.mk p.n0 p.x1 p.x2 s.x8 p.N0)) (S43_1.mk s.x8 s.F0_0 s.F0_1)).F0_1 j)]) i) = true) ∧ ∀ (i : Nat), i < p.N0 → (fun (j : Nat) => [SV.int IntKind.u64 ((lastS (r43_1 (P43_1.mk p.n0 p.x1 p.x2 s.x8 p.N0)) (S43_1.mk s.x8 s.F0_0 s.F0_1)).F0_0 j), SV.int IntKind.u64 ((lastS (r43_1 (P43_1.mk p.n0 p.x1 p.x2 s.x8 p.N0)) (S43_1.mk s.x8 s.F0_0 s.F0_1)).F0_1 j)]) i = elC (fun (j : Nat) => [SV.int IntKind.u64 ((lastS (r43_1 (P43_1.mk p.n0 p.x1 p.x2 s.x8 p.N0)) (S43_1.mk s.x8 s.F0_0 s.F0_1)).F0_0 j), SV.int IntKind.u64 ((lastS (r43_1 (P43_1.mk p.n0 p.x1 p.x2 s.x8 p.N0)) (S43_1.mk s.x8 s.F0_0 s.F0_1)).F0_1 j)]) (0:Nat) [Ck.int IntKind.u64, Ck.int IntKind.u64] i
noncomputable def e43_0_5 (p : P43_0) (s : S43_0) : (Int) := IntKind.i64.wrap (s.x8 + (1 : Int))
noncomputable def e43_0_6 (p : P43_0) (s : S43_0) : (Nat → Int) := (lastS (r43_1 (P43_1.mk p.n0 p.x1 p.x2 s.x8 p.N0)) (S43_1.mk s.x8 s.F0_0 s.F0_1)).F0_0
noncomputable def e43_0_7 (p : P43_0) (s : S43_0) : (Nat → Int) := (lastS (r43_1 (P43_1.mk p.n0 p.x1 p.x2 s.x8 p.N0)) (S43_1.mk s.x8 s.F0_0 s.F0_1)).F0_1
theorem n_e43_0_1 (p : P43_0) (s : S43_0) : e43_0_1 p s := by
  unfold e43_0_1
  first
    | (intros; rfl)
    | (intro i; rfl)
    | (intro i _; rfl)
    | (intro _ i; rfl)
    | (intro _ i _; rfl)
    | (refine ⟨?_, ?_⟩ <;> intro i <;> rfl)
    | (refine ⟨?_, ?_, ?_⟩ <;> intro i <;> rfl)
    | (refine ⟨?_, ?_⟩ <;> intro i _ <;> rfl)
    | (repeat' apply And.intro) <;> first | (intro i; rfl) | (intro i _; rfl) | (intro i h; exact absurd h (Nat.not_lt_zero i)) | (intro i; exact scpL_rowSet (by rfl) (by rfl)) | (intro i; exact scpL_rowEl (by kernel_rfl) _)
    | (intros; (repeat' apply And.intro) <;> intros <;> first | rfl | (exact absurd (by assumption) (Nat.not_lt_zero _)))
    | omega
    | decide
theorem n_e43_0_2 (p : P43_0) (s : S43_0) : e43_0_2 p s := by
  unfold e43_0_2
  first
    | (intros; rfl)
    | (intro i; rfl)
    | (intro i _; rfl)
    | (intro _ i; rfl)
    | (intro _ i _; rfl)
    | (refine ⟨?_, ?_⟩ <;> intro i <;> rfl)
    | (refine ⟨?_, ?_, ?_⟩ <;> intro i <;> rfl)
    | (refine ⟨?_, ?_⟩ <;> intro i _ <;> rfl)
    | (repeat' apply And.intro) <;> first | (intro i; rfl) | (intro i _; rfl) | (intro i h; exact absurd h (Nat.not_lt_zero i)) | (intro i; exact scpL_rowSet (by rfl) (by rfl)) | (intro i; exact scpL_rowEl (by kernel_rfl) _)
    | (intros; (repeat' apply And.intro) <;> intros <;> first | rfl | (exact absurd (by assumption) (Nat.not_lt_zero _)))
    | omega
    | decide
theorem n_e43_0_4 (p : P43_0) (s : S43_0) : e43_0_4 p s := by
  unfold e43_0_4
  first
    | (intros; rfl)
    | (intro i; rfl)
    | (intro i _; rfl)
    | (intro _ i; rfl)
    | (intro _ i _; rfl)
    | (refine ⟨?_, ?_⟩ <;> intro i <;> rfl)
    | (refine ⟨?_, ?_, ?_⟩ <;> intro i <;> rfl)
    | (refine ⟨?_, ?_⟩ <;> intro i _ <;> rfl)
    | (repeat' apply And.intro) <;> first | (intro i; rfl) | (intro i _; rfl) | (intro i h; exact absurd h (Nat.not_lt_zero i)) | (intro i; exact scpL_rowSet (by rfl) (by rfl)) | (intro i; exact scpL_rowEl (by kernel_rfl) _)
    | (intros; (repeat' apply And.intro) <;> intros <;> first | rfl | (exact absurd (by assumption) (Nat.not_lt_zero _)))
    | omega
    | decide
noncomputable def rf43_0 (p : P43_0) (s : S43_0) : Tr (Rs th.R S43_0) := (Tr.ite (e43_0_0 p s) (Tr.need (e43_0_1 p s) (Tr.leaf (Rs.out (Ex.exit ((0:Nat))) (none :: (none :: (none :: (none :: (none :: (none :: (none :: (none :: (none :: (none :: (none :: (none :: (none :: (none :: (none :: (none :: (none :: (none :: (none :: (none :: (none :: (none :: (none :: (none :: (none :: (none :: (none :: (none :: (none :: (none :: (none :: (none :: (none :: (none :: (none :: (none :: (none :: (none :: (none :: (none :: (none :: (none :: (none :: (none :: (none :: (none :: (none :: (none :: (none :: (none :: (none :: (none :: (none :: []))))))))))))))))))))))))))))))))))))))))))))))))))))) (List.cons (HO.row ((27 : Nat)) ((2 : Nat)) (p.N0) (fun j => (List.cons (SV.int (IntKind.u64) (s.F0_0 j)) (List.cons (SV.int (IntKind.u64) (s.F0_1 j)) [])))) [])))) (Tr.need (e43_0_2 p s) (Tr.need (e43_0_3 p s) (Tr.need (e43_0_4 p s) (Tr.leaf (Rs.on (S43_0.mk ((e43_0_5 p s)) ((e43_0_6 p s)) ((e43_0_7 p s)))))))))
noncomputable def r43_0 (p : P43_0) (s : S43_0) : Tr (Rs th.R S43_0) := (Tr.ite (e43_0_0 p s) (Tr.leaf (Rs.out (Ex.exit ((0:Nat))) (none :: (none :: (none :: (none :: (none :: (none :: (none :: (none :: (none :: (none :: (none :: (none :: (none :: (none :: (none :: (none :: (none :: (none :: (none :: (none :: (none :: (none :: (none :: (none :: (none :: (none :: (none :: (none :: (none :: (none :: (none :: (none :: (none :: (none :: (none :: (none :: (none :: (none :: (none :: (none :: (none :: (none :: (none :: (none :: (none :: (none :: (none :: (none :: (none :: (none :: (none :: (none :: (none :: []))))))))))))))))))))))))))))))))))))))))))))))))))))) (List.cons (HO.row ((27 : Nat)) ((2 : Nat)) (p.N0) (fun j => (List.cons (SV.int (IntKind.u64) (s.F0_0 j)) (List.cons (SV.int (IntKind.u64) (s.F0_1 j)) [])))) []))) (Tr.need (e43_0_3 p s) (Tr.leaf (Rs.on (S43_0.mk ((e43_0_5 p s)) ((e43_0_6 p s)) ((e43_0_7 p s)))))))
noncomputable def E43_0 : St th.R → Out th := evCode th Try.prog (auto th Try.prog nice46n [] 20) (autoH [(4, L43_1)] [] [] [] : Hints th) (lpAt Try.prog 43 0)
theorem ok43_0 : LoopsOk th Try.prog (autoH [(4, L43_1)] [] [] [] : Hints th) (lpAt Try.prog 43 0) := autoH_ok (bs := [lpAt Try.prog 43 1]) (by kernel_rfl) fun b hb L hL => by
  simp only [List.mem_cons, List.not_mem_nil, or_false] at hb
  rcases hb with rfl
  · have e : lookL [(4, L43_1)] (firstReg (lpAt Try.prog 43 1)) = some L43_1 := by kernel_rfl
    rw [e] at hL; cases hL
    exact ls43_1
theorem B43_0 : CodeSound th Try.prog (lpAt Try.prog 43 0) E43_0 := evCode_sound (T := th) (P := Try.prog) (tbl := (auto th Try.prog nice46n [] 20)) (auto_sound (nice := nice46n) (us := []) nok46n 20) (autoH [(4, L43_1)] [] [] [] : Hints th) _ ok43_0
noncomputable def L43_0 : St th.R → Out th := loopL d43_0 ofV43_0 r43_0
theorem h1_43_0 (p : P43_0) (s : S43_0) : bld d43_0.tm (toV43_0 p s) = some (I43_0 p s) := by kernel_rfl
theorem h2_43_0 (l : List (Vl th.R)) (p : P43_0) (s : S43_0) (h : ofV43_0 l = some (p, s)) : l = toV43_0 p s := by
  unfold ofV43_0 at h
  split at h
  · cases h; rfl
  · cases h
theorem h3_43_0 (p : P43_0) (s : S43_0) : cvE d43_0 (E43_0 (I43_0 p s)) = some ((rf43_0 p s).map (Rs.map (toV43_0 p))) := by kernel_rfl
theorem h3g_43_0 (p : P43_0) (s : S43_0) : (rf43_0 p s).get = (r43_0 p s).get := by kernel_rfl
theorem h4_43_0 (p : P43_0) (s s1 : S43_0) : outH d43_0.dirt d43_0.n0 (r43_0 p s) = repH (maskH d43_0.dirt 0 d43_0.n0 (I43_0 p s1).heap) (r43_0 p s) := by kernel_rfl
theorem ls43_0 : CodeSound th Try.prog (.loop (lpAt Try.prog 43 0)) L43_0 := loopL_sound B43_0 d43_0 I43_0 toV43_0 (by kernel_rfl) h1_43_0 h2_43_0
  (fun p s => ⟨(rf43_0 p s).map (Rs.map (toV43_0 p)), h3_43_0 p s, fun h => by
    rw [Tr.map_ok]
    unfold r43_0 at h; unfold rf43_0
    simp only [Tr.ok, n_e43_0_1, n_e43_0_2, n_e43_0_4, true_and, and_true, forall_const, implies_true] at h ⊢
    try exact h, by rw [Tr.map_get, h3g_43_0 p s]⟩) h4_43_0
theorem ok43 : LoopsOk th Try.prog (autoH [(1, L43_0)] [] [] [] : Hints th) (bodyOf Try.prog 43) := autoH_ok (bs := [lpAt Try.prog 43 0, lpAt Try.prog 43 1]) (by kernel_rfl) fun b hb L hL => by
  simp only [List.mem_cons, List.not_mem_nil, or_false] at hb
  rcases hb with rfl | rfl
  · have e : lookL [(1, L43_0)] (firstReg (lpAt Try.prog 43 0)) = some L43_0 := by kernel_rfl
    rw [e] at hL; cases hL
    exact ls43_0
  · have e : lookL [(1, L43_0)] (firstReg (lpAt Try.prog 43 1)) = (none : Option (St th.R → Out th)) := by kernel_rfl
    rw [e] at hL; cases hL
noncomputable def f43_0 (v : V43) : (Prop) := ∀ (i : Nat), i < v.M → (fun (j : Nat) => [SV.int IntKind.u64 (v.F j), SV.int IntKind.u64 (v.G j)]) i = elC (fun (j : Nat) => [SV.int IntKind.u64 (v.F j), SV.int IntKind.u64 (v.G j)]) (0:Nat) [Ck.int IntKind.u64, Ck.int IntKind.u64] i
noncomputable def f43_1 (v : V43) : (Prop) := LT (r43_0 (P43_0.mk v.L v.a v.b v.M)) (S43_0.mk (IntKind.i64.wrap (v.a + (1 : Int))) v.F v.G)
noncomputable def f43z0 (v : V43) : S43_0 := lastS (r43_0 (P43_0.mk v.L v.a v.b v.M)) (S43_0.mk (IntKind.i64.wrap (v.a + (1 : Int))) v.F v.G)
noncomputable def f43_2 (v : V43) : (Prop) := ∀ (i : Nat), scpL (1 : Nat) ((fun (j : Nat) => [SV.int IntKind.u64 ((f43z0 v).F0_0 j), SV.int IntKind.u64 ((f43z0 v).F0_1 j)]) i) = true
noncomputable def f43_3 (v : V43) : Nat → (Int) := fun j => (f43z0 v).F0_0 j
noncomputable def f43_4 (v : V43) : Nat → (Int) := fun j => (f43z0 v).F0_1 j
theorem n_f43_0 (v : V43) : f43_0 v := by
  unfold f43_0
  first
    | (intros; rfl)
    | (intro i; rfl)
    | (intro i _; rfl)
    | (intro _ i; rfl)
    | (intro _ i _; rfl)
    | (refine ⟨?_, ?_⟩ <;> intro i <;> rfl)
    | (refine ⟨?_, ?_, ?_⟩ <;> intro i <;> rfl)
    | (refine ⟨?_, ?_⟩ <;> intro i _ <;> rfl)
    | (repeat' apply And.intro) <;> first | (intro i; rfl) | (intro i _; rfl) | (intro i h; exact absurd h (Nat.not_lt_zero i)) | (intro i; exact scpL_rowSet (by rfl) (by rfl)) | (intro i; exact scpL_rowEl (by kernel_rfl) _)
    | (intros; (repeat' apply And.intro) <;> intros <;> first | rfl | (exact absurd (by assumption) (Nat.not_lt_zero _)))
    | omega
    | decide
theorem n_f43_2 (v : V43) : f43_2 v := by
  unfold f43_2
  first
    | (intros; rfl)
    | (intro i; rfl)
    | (intro i _; rfl)
    | (intro _ i; rfl)
    | (intro _ i _; rfl)
    | (refine ⟨?_, ?_⟩ <;> intro i <;> rfl)
    | (refine ⟨?_, ?_, ?_⟩ <;> intro i <;> rfl)
    | (refine ⟨?_, ?_⟩ <;> intro i _ <;> rfl)
    | (repeat' apply And.intro) <;> first | (intro i; rfl) | (intro i _; rfl) | (intro i h; exact absurd h (Nat.not_lt_zero i)) | (intro i; exact scpL_rowSet (by rfl) (by rfl)) | (intro i; exact scpL_rowEl (by kernel_rfl) _)
    | (intros; (repeat' apply And.intro) <;> intros <;> first | rfl | (exact absurd (by assumption) (Nat.not_lt_zero _)))
    | omega
    | decide
noncomputable def ff43 (v : V43) : Tr (Fin th.R) := (Tr.need (f43_0 v) (Tr.need (f43_1 v) (Tr.need (f43_2 v) (Tr.leaf (Prod.mk (SV.tup []) (Prod.mk (List.cons (HO.row ((27 : Nat)) ((2 : Nat)) (v.M) (fun j => (List.cons (SV.int (IntKind.u64) (f43_3 v j)) (List.cons (SV.int (IntKind.u64) (f43_4 v j)) [])))) []) (List.cons ((0:Nat)) [])))))))
noncomputable def f43 (v : V43) : Tr (Fin th.R) := (Tr.need (f43_1 v) (Tr.leaf (Prod.mk (SV.tup []) (Prod.mk (List.cons (HO.row ((27 : Nat)) ((2 : Nat)) (v.M) (fun j => (List.cons (SV.int (IntKind.u64) (f43_3 v j)) (List.cons (SV.int (IntKind.u64) (f43_4 v j)) [])))) []) ([0])))))
noncomputable def C43 : CF th.R := fnC d43 ofV43 (f43 )
theorem q43 (v : V43) : (evFn th Try.prog (auto th Try.prog nice46n [] 20) (autoH [(1, L43_0)] [] [] [] : Hints th) 43) (A43 v) (H43 v) = some (ff43 v) := by kernel_rfl
theorem qg43 (v : V43) : ((ff43 v).map (setD [0])).get = (f43 v).get := by kernel_rfl
theorem qd43 (v : V43) : allD 1 [0] (ff43 v) = true := by kernel_rfl
theorem s43 : Sound Try.prog th 43 (C43 ) := fnC_sound (evFn_sound' (T := th) (P := Try.prog) (tbl := (auto th Try.prog nice46n [] 20)) (auto_sound (nice := nice46n) (us := []) nok46n 20) (H := (autoH [(1, L43_0)] [] [] [] : Hints th)) (k := 43) (fnLoops ok43)) d43 A43 H43 toV43 (by kernel_rfl) (fun v => by kernel_rfl)
  (fun l v h => by
    unfold ofV43 at h
    split at h
    · cases h; rfl
    · cases h)
  [0] (fun v => ⟨ff43 v, q43 v, fun h => by
    unfold f43 at h; unfold ff43
    simp only [Tr.ok, n_f43_0, n_f43_2, true_and, and_true, forall_const, implies_true] at h ⊢
    try exact h, qg43 v, qd43 v⟩)
theorem qdd43 (v : V43) : (f43 v).get.2.2 = [0] := by
  rw [← qg43, Tr.map_get]; rfl
noncomputable def nice43 : List (Nat × CF th.R) := (43, lift C43) :: nice46n
theorem nok43 : NiceOk Try.prog th nice43 := ⟨lift_sound s43, nok46n⟩
end Go.Sx.S

namespace Go.Sx.S
open Go Go.Sx Go.Proofs Go.RowKit So
theorem f35_val (x y : Int) : f35_0 x y = if x < y then -1 else if x > y then 1 else 0 := by
  have h : ∀ x, f40_0 x = false := fun x => by unfold f40_0; simp
  unfold f35_0
  simp only [h, cndB, Bool.false_eq_true, if_false, decide_eq_true_eq]
theorem cmp33 (x y : Sp) : decide (f33_1 x.1 x.2 y.1 y.2 < 0) = !(le y x) := by
  unfold f33_1
  simp only [f35_val, cndB, le]
  have e : ∀ u w : Int, ([u, w].getD (0 + Int.toNat 0) 0) = u ∧ ([u, w].getD (0 + Int.toNat 1) 0) = w := fun u w => ⟨rfl, rfl⟩
  simp only [e]
  by_cases a1 : x.1 < y.1
  · have a2 : ¬ y.1 < x.1 := by omega
    have a3 : ¬ y.1 = x.1 := by omega
    simp [a1, a2, a3]
  · by_cases a2 : x.1 > y.1
    · simp [a1, a2]
    · have a3 : x.1 = y.1 := by omega
      by_cases b1 : y.2 < x.2
      · have b2 : ¬ x.2 ≤ y.2 := by omega
        simp [a3, b1, b2]
      · by_cases b3 : y.2 > x.2
        · have b2 : x.2 ≤ y.2 := by omega
          simp [a3, b1, b2, b3]
        · have b2 : x.2 = y.2 := by omega
          simp [a3, b2]
def pre43 (v : V43) : Prop := 0 ≤ v.a ∧ v.a ≤ v.b ∧ v.b ≤ v.L ∧ v.L ≤ v.M ∧ v.L < 4611686018427387904
noncomputable def f43n (v : V43) : Tr (Fin th.R) := .need (pre43 v) (.leaf (.tup [], [rowP v.M (srt (sp v.F v.G) v.a.toNat v.b.toNat)], [0]))
theorem l43_1 (L : Nat) (a b : Int) (i M : Nat) (F G : Nat → Int) (h0 : 0 ≤ a) (h1 : a ≤ i) (h2 : i < L) (h3 : L ≤ M) (h4 : L < 4611686018427387904) (hs : SortedIn a.toNat i (sp F G)) :
    LT (r43_1 (P43_1.mk L a b i M)) (S43_1.mk i F G) ∧ (fun s : S43_1 => SortedIn a.toNat (i + 1) (sp s.F0_0 s.F0_1) ∧ PermIn a.toNat (i + 1) (sp F G) (sp s.F0_0 s.F0_1)) (lastS (r43_1 (P43_1.mk L a b i M)) (S43_1.mk i F G)) := by
  refine LT.post (fun s : S43_1 => ∃ j : Nat, s.x9 = j ∧ SB a.toNat i j (sp s.F0_0 s.F0_1) ∧ PermIn a.toNat (i + 1) (sp F G) (sp s.F0_0 s.F0_1)) (fun s : S43_1 => SortedIn a.toNat (i + 1) (sp s.F0_0 s.F0_1) ∧ PermIn a.toNat (i + 1) (sp F G) (sp s.F0_0 s.F0_1)) (fun s : S43_1 => s.x9.toNat) ?_ ?_
  rotate_left
  · exact ⟨i, rfl, SB_start hs (by omega), .refl _ _ _⟩
  rintro ⟨x, F', G'⟩ ⟨j, g1, g2, g3⟩
  simp only at g1 g2 g3
  subst g1
  obtain ⟨q1, q2, _⟩ := id g2
  have hw : a < j → IntKind.i64.wrap ((j : Int) - 1) = ((j - 1 : Nat) : Int) := fun h => by rw [wi (by omega) (by omega)]; omega
  have ec : ∀ h : a < j, decide (f33_1 (F' (0 + (j : Int).toNat)) (G' (0 + (j : Int).toNat)) (F' (0 + (IntKind.i64.wrap ((j : Int) - 1)).toNat)) (G' (0 + (IntKind.i64.wrap ((j : Int) - 1)).toNat)) < 0) = !(le (sp F' G' (j - 1)) (sp F' G' j)) := fun h => by
    rw [hw h, ← cmp33]
    simp only [sp, Nat.zero_add, Int.toNat_natCast]
    exact decide_eq_decide.2 Iff.rfl
  simp only [r43_1, e43_1_0, e43_1_1, e43_1_3, e43_1_5, Tr.ok, Tr.get]
  by_cases hj : a < j
  · rw [ec hj, hw hj]
    have hd : decide ((j : Int) > a) = true := by simpa using hj
    rw [hd]
    have hok : ((cnd true true false = true → (0 : Int) ≤ j ∧ (j : Int) < L) ∧ (cnd true true false = true → 0 + (j : Int).toNat < M) ∧ (cnd true true false = true → (0 : Int) ≤ ((j - 1 : Nat) : Int) ∧ ((j - 1 : Nat) : Int) < L) ∧ (cnd true true false = true → 0 + ((j - 1 : Nat) : Int).toNat < M)) :=
      ⟨fun _ => by omega, fun _ => by omega, fun _ => by omega, fun _ => by omega⟩
    cases hl : le (sp F' G' (j - 1)) (sp F' G' j) with
    | true =>
      refine ⟨⟨hok, fun _ => trivial, (fun e => by cases e)⟩, .inl ⟨⟨_, _, _, rfl⟩, SB_end g2 (.inr hl), g3⟩⟩
    | false =>
      have hl' := le_false hl
      refine ⟨⟨hok, (fun e => by cases e), fun _ => ⟨⟨fun _ => by omega, fun _ => by omega, fun _ => by omega, fun _ => by omega, fun _ => by omega, ⟨by omega, trivial⟩, fun _ => by omega, by omega, trivial⟩, trivial⟩⟩, .inr ⟨_, rfl, ⟨j - 1, rfl, ?_⟩, by simp only; omega⟩⟩
      have e : sp (fun k => e43_1_6 (P43_1.mk L a b i M) (S43_1.mk j F' G') k) (fun k => e43_1_7 (P43_1.mk L a b i M) (S43_1.mk j F' G') k) = swp (sp F' G') (j - 1) j := by
        funext k
        simp only [sp, e43_1_6, e43_1_7, hw hj, swp, cndB, beqT, Nat.zero_add, Int.toNat_natCast]
        split <;> (try split) <;> rfl
      rw [e]
      exact ⟨SB_step g2 (by omega) hl', g3.trans (swp_perm (by omega) (by omega) (by omega) (by omega))⟩
  · have hd : decide ((j : Int) > a) = false := by simpa using hj
    rw [hd]
    refine ⟨⟨⟨(fun e => by cases e), (fun e => by cases e), (fun e => by cases e), (fun e => by cases e)⟩, fun _ => trivial, (fun e => by cases e)⟩, .inl ⟨⟨_, _, _, rfl⟩, SB_end g2 (.inl (by omega)), g3⟩⟩
theorem l43 (v : V43) (h : pre43 v) : f43_1 v ∧ sp (f43z0 v).F0_0 (f43z0 v).F0_1 = srt (sp v.F v.G) v.a.toNat v.b.toNat := by
  obtain ⟨h1, h2, h3, h4, h5⟩ := h
  have w1 : IntKind.i64.wrap (v.a + 1) = ((v.a.toNat + 1 : Nat) : Int) := by rw [wi (by omega) (by omega)]; omega
  unfold f43_1 f43z0
  rw [w1]
  refine LT.post (fun s : S43_0 => ∃ i : Nat, s.x8 = i ∧ v.a < i ∧ (i ≤ v.b ∨ i = v.a.toNat + 1) ∧ SortedIn v.a.toNat i (sp s.F0_0 s.F0_1) ∧ PermIn v.a.toNat v.b.toNat (sp v.F v.G) (sp s.F0_0 s.F0_1)) (fun s : S43_0 => sp s.F0_0 s.F0_1 = srt (sp v.F v.G) v.a.toNat v.b.toNat) (fun s : S43_0 => (v.b - s.x8).toNat) ?_ ?_
  rotate_left
  · exact ⟨v.a.toNat + 1, rfl, by omega, .inr rfl, SortedIn.one, .refl _ _ _⟩
  rintro ⟨x, F, G⟩ ⟨i, g1, g2, g3, g4, g5⟩
  simp only at g1 g4 g5
  subst g1
  simp only [r43_0, e43_0_0, e43_0_3, e43_0_5, e43_0_6, e43_0_7, Tr.ok, Tr.get]
  by_cases hc : (i : Int) < v.b
  · have e0 : cnd (decide ((i : Int) < v.b)) false true = false := by rw [decide_eq_true hc]; rfl
    rw [e0]
    obtain ⟨a1, a2, a3⟩ := l43_1 v.L v.a v.b i v.M F G h1 (by omega) (by omega) h4 h5 g4
    have w2 : IntKind.i64.wrap ((i : Int) + 1) = ((i + 1 : Nat) : Int) := by rw [wi (by omega) (by omega)]; omega
    exact ⟨⟨(fun e => by cases e), fun _ => ⟨a1, trivial⟩⟩, .inr ⟨_, rfl, ⟨i + 1, w2, by omega, .inl (by omega), a2, g5.trans (a3.mono (Nat.le_refl _) (by omega) (by omega))⟩, by simp only [w2]; omega⟩⟩
  · have e0 : cnd (decide ((i : Int) < v.b)) false true = true := by rw [decide_eq_false hc]; rfl
    rw [e0]
    refine ⟨⟨fun _ => trivial, (fun e => by cases e)⟩, .inl ⟨⟨_, _, _, rfl⟩, srt_unique g5 (g4.mono (Nat.le_refl _) (by omega))⟩⟩
noncomputable def C43n : CF th.R := fnC d43 ofV43 f43n
theorem s43n : Sound Try.prog th 43 C43n := fnC_refine s43 fun v h => by
  obtain ⟨hp, _⟩ := h
  obtain ⟨a, b⟩ := l43 v hp
  refine ⟨⟨a, trivial⟩, rfl, rfl, .cons ?_ .nil, Nat.le_refl _⟩
  refine .row fun j _ => ?_
  have e := congrFun b j
  simp only [f43_3, f43_4, ← e]
  rfl
noncomputable def nice43n : List (Nat × CF th.R) := (43, lift C43n) :: nice46n
theorem nok43n : NiceOk Try.prog th nice43n := ⟨lift_sound s43n, nok46n⟩
end Go.Sx.S

