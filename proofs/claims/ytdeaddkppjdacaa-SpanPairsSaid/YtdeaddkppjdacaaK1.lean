/- Contracts of the functions of this seat, each by the executor and the kernel; part 1. Their conditions stand in each. -/
import Derived.Test.YtdeaddkppjdacaaSx3
import Derived.Test.YtdeaddkppjdacaaProg
set_option linter.unusedVariables false
set_option linter.unusedSimpArgs false
namespace Go.Sx.S
open Go Go.Sx Go.Proofs Go.RowKit
def th : Theory := { R := Empty, holds := (fun r => nomatch r), keep := (fun {r} => nomatch r), merge := (fun _ a => nomatch a), merge_spec := (fun {_ a} => nomatch a) }
end Go.Sx.S

namespace Go.Sx.S
open Go Go.Sx Go.Proofs Go.RowKit
def us11 : List Un := []
def f11_0 (f : Int) (t : Int) : Bool := Decidable.decide (f < t)
def f11 : List SV → Option (Tr SV)
  | [.agg [.int .u64 f, .int .u64 t]] => some (Go.Sx.Tr.leaf (Go.Sx.SV.bool (f11_0 f t)))
  | _ => none
theorem s11 : Sound Try.prog th 11 (pureC f11) := pure_auto (us := us11) (nice := ([] : List (Nat × CF th.R))) trivial 20 fun args t h => by
  unfold f11 at h
  split at h
  · cases h; kernel_rfl
  · cases h
noncomputable def nice11 : List (Nat × CF th.R) := (11, pureC f11) :: ([] : List (Nat × CF th.R))
theorem nok11 : NiceOk Try.prog th nice11 := ⟨s11, trivial⟩
end Go.Sx.S

namespace Go.Sx.S
open Go Go.Sx Go.Proofs Go.RowKit
def us12 : List Un := []
def f12_0 (f : Int) (t : Int) : Bool := Go.Sx.cnd (Decidable.decide (f ≥ f)) (Decidable.decide (f < t)) Bool.false
def f12 : List SV → Option (Tr SV)
  | [.agg [.int .u64 f, .int .u64 t]] => some (Go.Sx.Tr.leaf (Go.Sx.SV.bool (f12_0 f t)))
  | _ => none
theorem s12 : Sound Try.prog th 12 (pureC f12) := pure_auto (us := us12) (nice := nice11) nok11 20 fun args t h => by
  unfold f12 at h
  split at h
  · cases h; kernel_rfl
  · cases h
noncomputable def nice12 : List (Nat × CF th.R) := (12, pureC f12) :: nice11
theorem nok12 : NiceOk Try.prog th nice12 := ⟨s12, nok11⟩
end Go.Sx.S

namespace Go.Sx.S
open Go Go.Sx Go.Proofs Go.RowKit
def us17 : List Un := []
def f17_0 (f : Int) (t : Int) (a : Int) : Bool := Go.Sx.cnd (Decidable.decide (f ≤ a)) (Decidable.decide (a < t)) Bool.false
def f17 : List SV → Option (Tr SV)
  | [.agg [.int .u64 f, .int .u64 t], .int .u64 a] => some (Go.Sx.Tr.leaf (Go.Sx.SV.bool (f17_0 f t a)))
  | _ => none
theorem s17 : Sound Try.prog th 17 (pureC f17) := pure_auto (us := us17) (nice := nice12) nok12 20 fun args t h => by
  unfold f17 at h
  split at h
  · cases h; kernel_rfl
  · cases h
noncomputable def nice17 : List (Nat × CF th.R) := (17, pureC f17) :: nice12
theorem nok17 : NiceOk Try.prog th nice17 := ⟨s17, nok12⟩
end Go.Sx.S

namespace Go.Sx.S
open Go Go.Sx Go.Proofs Go.RowKit
def us18 : List Un := []
def f18_0 (f : Int) (t : Int) (a : Int) : Bool := Go.Sx.cnd (Decidable.decide (a ≥ f)) (Decidable.decide (a < t)) Bool.false
def f18 : List SV → Option (Tr SV)
  | [.agg [.int .u64 f, .int .u64 t], .int .u64 a] => some (Go.Sx.Tr.leaf (Go.Sx.SV.bool (f18_0 f t a)))
  | _ => none
theorem s18 : Sound Try.prog th 18 (pureC f18) := pure_auto (us := us18) (nice := nice17) nok17 20 fun args t h => by
  unfold f18 at h
  split at h
  · cases h; kernel_rfl
  · cases h
noncomputable def nice18 : List (Nat × CF th.R) := (18, pureC f18) :: nice17
theorem nok18 : NiceOk Try.prog th nice18 := ⟨s18, nok17⟩
end Go.Sx.S

namespace Go.Sx.S
open Go Go.Sx Go.Proofs Go.RowKit
def us13 : List Un := []
def f13_0 (f : Int) (t : Int) (f2 : Int) (t2 : Int) : Bool := Go.Sx.cnd (Go.Sx.cnd (Go.Sx.cnd (Go.Sx.S.f11_0 f t) (Go.Sx.S.f11_0 f2 t2) Bool.false) (Decidable.decide (f < t2)) Bool.false) (Decidable.decide (f2 < t)) Bool.false
def f13 : List SV → Option (Tr SV)
  | [.agg [.int .u64 f, .int .u64 t], .agg [.int .u64 f2, .int .u64 t2]] => some (Go.Sx.Tr.leaf (Go.Sx.SV.bool (f13_0 f t f2 t2)))
  | _ => none
theorem s13 : Sound Try.prog th 13 (pureC f13) := pure_auto (us := us13) (nice := nice18) nok18 20 fun args t h => by
  unfold f13 at h
  split at h
  · cases h; kernel_rfl
  · cases h
noncomputable def nice13 : List (Nat × CF th.R) := (13, pureC f13) :: nice18
theorem nok13 : NiceOk Try.prog th nice13 := ⟨s13, nok18⟩
end Go.Sx.S

namespace Go.Sx.S
open Go Go.Sx Go.Proofs Go.RowKit
def us14 : List Un := []
def f14_0 (f : Int) (t : Int) (f2 : Int) (t2 : Int) : Bool := Go.Sx.cnd (Go.Sx.cnd (!Go.Sx.S.f12_0 f t) Bool.true !Go.Sx.S.f12_0 f2 t2) Bool.false (Go.Sx.cnd (Decidable.decide (f > f2)) (Go.Sx.S.f18_0 f2 t2 f) (Go.Sx.S.f18_0 f t f2))
def f14 : List SV → Option (Tr SV)
  | [.agg [.int .u64 f, .int .u64 t], .agg [.int .u64 f2, .int .u64 t2]] => some (Go.Sx.Tr.leaf (Go.Sx.SV.bool (f14_0 f t f2 t2)))
  | _ => none
theorem s14 : Sound Try.prog th 14 (pureC f14) := pure_auto (us := us14) (nice := nice13) nok13 20 fun args t h => by
  unfold f14 at h
  split at h
  · cases h; kernel_rfl
  · cases h
noncomputable def nice14 : List (Nat × CF th.R) := (14, pureC f14) :: nice13
theorem nok14 : NiceOk Try.prog th nice14 := ⟨s14, nok13⟩
end Go.Sx.S

namespace Go.Sx.S
open Go Go.Sx Go.Proofs Go.RowKit
def us15 : List Un := []
def f15_0 (f : Int) (t : Int) (f2 : Int) (t2 : Int) : Bool := Go.Sx.cnd (Go.Sx.cnd (Go.Sx.cnd (Go.Sx.S.f11_0 f t) (Go.Sx.S.f11_0 f2 t2) Bool.false) (Decidable.decide (f2 ≤ f)) Bool.false) (Decidable.decide (t ≤ t2)) Bool.false
def f15 : List SV → Option (Tr SV)
  | [.agg [.int .u64 f, .int .u64 t], .agg [.int .u64 f2, .int .u64 t2]] => some (Go.Sx.Tr.leaf (Go.Sx.SV.bool (f15_0 f t f2 t2)))
  | _ => none
theorem s15 : Sound Try.prog th 15 (pureC f15) := pure_auto (us := us15) (nice := nice14) nok14 20 fun args t h => by
  unfold f15 at h
  split at h
  · cases h; kernel_rfl
  · cases h
noncomputable def nice15 : List (Nat × CF th.R) := (15, pureC f15) :: nice14
theorem nok15 : NiceOk Try.prog th nice15 := ⟨s15, nok14⟩
end Go.Sx.S

namespace Go.Sx.S
open Go Go.Sx Go.Proofs Go.RowKit
def us16 : List Un := []
def f16_0 (f : Int) (t : Int) (f2 : Int) (t2 : Int) : Bool := Go.Sx.cnd (Go.Sx.cnd (Go.Sx.cnd (Go.Sx.S.f12_0 f t) (Go.Sx.S.f12_0 f2 t2) Bool.false) (Go.Sx.S.f18_0 f2 t2 f) Bool.false) (Go.Sx.S.f18_0 f2 t2 (Go.IntKind.u64.wrap (t - (1 : Int)))) Bool.false
def f16 : List SV → Option (Tr SV)
  | [.agg [.int .u64 f, .int .u64 t], .agg [.int .u64 f2, .int .u64 t2]] => some (Go.Sx.Tr.leaf (Go.Sx.SV.bool (f16_0 f t f2 t2)))
  | _ => none
theorem s16 : Sound Try.prog th 16 (pureC f16) := pure_auto (us := us16) (nice := nice15) nok15 20 fun args t h => by
  unfold f16 at h
  split at h
  · cases h; kernel_rfl
  · cases h
noncomputable def nice16 : List (Nat × CF th.R) := (16, pureC f16) :: nice15
theorem nok16 : NiceOk Try.prog th nice16 := ⟨s16, nok15⟩
end Go.Sx.S

namespace Go.Sx.S
open Go Go.Sx Go.Proofs Go.RowKit
def us40 : List Un := []
def f40_0 (x : Int) : Bool := x != x
def f40 : List SV → Option (Tr SV)
  | [.int .u64 x] => some (Go.Sx.Tr.leaf (Go.Sx.SV.bool (f40_0 x)))
  | _ => none
theorem s40 : Sound Try.prog th 40 (pureC f40) := pure_auto (us := us40) (nice := nice16) nok16 20 fun args t h => by
  unfold f40 at h
  split at h
  · cases h; kernel_rfl
  · cases h
noncomputable def nice40 : List (Nat × CF th.R) := (40, pureC f40) :: nice16
theorem nok40 : NiceOk Try.prog th nice40 := ⟨s40, nok16⟩
end Go.Sx.S

namespace Go.Sx.S
open Go Go.Sx Go.Proofs Go.RowKit
def us35 : List Un := []
def f35_0 (x : Int) (y : Int) : Int := Go.Sx.cnd (Go.Sx.cnd (Go.Sx.S.f40_0 x) (Go.Sx.S.f40_0 y) Bool.false) (0 : Int) (Go.Sx.cnd (Go.Sx.S.f40_0 x) (-1 : Int) (Go.Sx.cnd (Go.Sx.S.f40_0 y) (1 : Int) (Go.Sx.cnd (Decidable.decide (x < y)) (-1 : Int) (Go.Sx.cnd (Decidable.decide (x > y)) (1 : Int) (0 : Int)))))
def f35 : List SV → Option (Tr SV)
  | [.int .u64 x, .int .u64 y] => some (Go.Sx.Tr.leaf (Go.Sx.SV.int (Go.IntKind.i64) (f35_0 x y)))
  | _ => none
theorem s35 : Sound Try.prog th 35 (pureC f35) := pure_auto (us := us35) (nice := nice40) nok40 20 fun args t h => by
  unfold f35 at h
  split at h
  · cases h; kernel_rfl
  · cases h
noncomputable def nice35 : List (Nat × CF th.R) := (35, pureC f35) :: nice40
theorem nok35 : NiceOk Try.prog th nice35 := ⟨s35, nok40⟩
end Go.Sx.S

namespace Go.Sx.S
open Go Go.Sx Go.Proofs Go.RowKit
def us33 : List Un := [⟨34, [(3, 3)], [9]⟩]
def f33_0 (f : Int) (t : Int) (f2 : Int) (t2 : Int) : Prop := Bool.true = Bool.true → (∀ (i : Nat), Go.Sx.scpL (0 : Nat) (Go.Sx.rowEl (2 : Nat) (nat_lit 0 + (1 : Nat)) (Go.Sx.setMany (Go.Sx.setMany (List.map (fun i => [Go.Sx.SV.int Go.IntKind.i64 (0 : Int)].getD (i % (1 : Nat)) Inhabited.default) (List.range ((2 : Nat) * (nat_lit 0 + (1 : Nat))))) ((0 : Nat) * (nat_lit 0 + (1 : Nat))) (Go.Sx.SV.int Go.IntKind.i64 (Go.Sx.S.f35_0 f f2)).cells) ((1 : Nat) * (nat_lit 0 + (1 : Nat))) (Go.Sx.SV.int Go.IntKind.i64 (Go.Sx.S.f35_0 t2 t)).cells) i) = Bool.true) ∧ ((0 : Int) ≤ (0 : Int) ∧ (0 : Int) < (2 : Int)) ∧ (0 : Nat) + Int.toNat (0 : Int) < (2 : Nat) ∧ (([Go.Sx.S.f35_0 f f2, Go.Sx.S.f35_0 t2 t].getD ((0 : Nat) + Int.toNat (0 : Int)) (0 : Int) != (0 : Int)) = Bool.false → (0 : Int) ≤ (1 : Int) ∧ (1 : Int) < (2 : Int)) ∧ (([Go.Sx.S.f35_0 f f2, Go.Sx.S.f35_0 t2 t].getD ((0 : Nat) + Int.toNat (0 : Int)) (0 : Int) != (0 : Int)) = Bool.false → (0 : Nat) + Int.toNat (1 : Int) < (2 : Nat)) ∧ ∀ (i : Nat), Go.Sx.scpL (0 : Nat) (Go.Sx.rowEl (2 : Nat) (nat_lit 0 + (1 : Nat)) (Go.Sx.setMany (Go.Sx.setMany (List.map (fun i => [Go.Sx.SV.int Go.IntKind.i64 (0 : Int)].getD (i % (1 : Nat)) Inhabited.default) (List.range ((2 : Nat) * (nat_lit 0 + (1 : Nat))))) ((0 : Nat) * (nat_lit 0 + (1 : Nat))) (Go.Sx.SV.int Go.IntKind.i64 (Go.Sx.S.f35_0 f f2)).cells) ((1 : Nat) * (nat_lit 0 + (1 : Nat))) (Go.Sx.SV.int Go.IntKind.i64 (Go.Sx.S.f35_0 t2 t)).cells) i) = Bool.true
def f33_1 (f : Int) (t : Int) (f2 : Int) (t2 : Int) : Int := Go.Sx.cnd ([Go.Sx.S.f35_0 f f2, Go.Sx.S.f35_0 t2 t].getD ((0 : Nat) + Int.toNat (0 : Int)) (0 : Int) != (0 : Int)) ([Go.Sx.S.f35_0 f f2, Go.Sx.S.f35_0 t2 t].getD ((0 : Nat) + Int.toNat (0 : Int)) (0 : Int)) (Go.Sx.cnd ([Go.Sx.S.f35_0 f f2, Go.Sx.S.f35_0 t2 t].getD ((0 : Nat) + Int.toNat (1 : Int)) (0 : Int) != (0 : Int)) ([Go.Sx.S.f35_0 f f2, Go.Sx.S.f35_0 t2 t].getD ((0 : Nat) + Int.toNat (1 : Int)) (0 : Int)) (0 : Int))
theorem n33_0 (f : Int) (t : Int) (f2 : Int) (t2 : Int) : f33_0 f t f2 t2 := by
  unfold f33_0
  (repeat' first
    | apply And.intro
    | intro _
    | apply scpL_rowSet)
  all_goals first
    | exact scpL_rowEl (by kernel_rfl) _
    | exact scpL_chunk (by kernel_rfl)
    | rfl
    | omega
    | decide
    | decide +kernel
def f33 : List SV → Option (Tr SV)
  | [.agg [.int .u64 f, .int .u64 t], .agg [.int .u64 f2, .int .u64 t2]] => some (Go.Sx.Tr.leaf (Go.Sx.SV.int (Go.IntKind.i64) (f33_1 f t f2 t2)))
  | _ => none
theorem s33 : Sound Try.prog th 33 (pureC f33) := pure_auto2 (us := us33) (nice := nice35) nok35 20 fun args t h => by
  unfold f33 at h
  split at h
  · rename_i f t f2 t2
    cases h
    refine ⟨(Go.Sx.Tr.need (f33_0 f t f2 t2) (Go.Sx.Tr.leaf (Go.Sx.SV.int (Go.IntKind.i64) (f33_1 f t f2 t2)))), by kernel_rfl, fun ok => ?_, rfl⟩
    first
    | (simp only [Tr.ok, n33_0, true_and, and_true, forall_const, implies_true]; done)
    | (simp only [Tr.ok, n33_0, true_and, and_true, forall_const, implies_true]; done)
    | (simpa only [Tr.ok, n33_0, true_and, and_true, forall_const, implies_true] using ok; done)
    | (simp only [Tr.ok, n33_0, true_and, and_true, forall_const, implies_true] at ok ⊢; grind)
  · cases h
noncomputable def nice33 : List (Nat × CF th.R) := (33, pureC f33) :: nice35
theorem nok33 : NiceOk Try.prog th nice33 := ⟨s33, nok35⟩
end Go.Sx.S

namespace Go.Sx.S
open Go Go.Sx Go.Proofs Go.RowKit
def us42 : List Un := [⟨34, [(3, 3)], [9]⟩]
def f42_0 (f : Int) (t : Int) : Bool := !Go.Sx.S.f11_0 f t
def f42 : List SV → Option (Tr SV)
  | [.agg [.int .u64 f, .int .u64 t]] => some (Go.Sx.Tr.leaf (Go.Sx.SV.bool (f42_0 f t)))
  | _ => none
theorem s42 : Sound Try.prog th 42 (pureC f42) := pure_auto (us := us42) (nice := nice33) nok33 20 fun args t h => by
  unfold f42 at h
  split at h
  · cases h; kernel_rfl
  · cases h
noncomputable def nice42 : List (Nat × CF th.R) := (42, pureC f42) :: nice33
theorem nok42 : NiceOk Try.prog th nice42 := ⟨s42, nok33⟩
end Go.Sx.S

namespace Go.Sx.S
open Go Go.Sx Go.Proofs Go.RowKit
def us9 : List Un := [⟨34, [(3, 3)], [9]⟩, ⟨43, [(1, 3), (4, 3)], [14, 34]⟩, ⟨39, [(2, 2), (7, 2)], [13, 30]⟩, ⟨45, [(2, 4)], [9, 16]⟩, ⟨41, [(5, 4)], [12, 19, 29]⟩, ⟨31, [], [4]⟩, ⟨26, [(3, 4)], [11, 17]⟩, ⟨21, [(4, 4), (6, 4)], [12, 29, 48]⟩, ⟨9, [], [8, 14, 20, 27]⟩]
def f9_0 : Prop := ∀ (i : Nat), Go.Sx.scpL (0 : Nat) (Go.Sx.rowEl (2 : Nat) (nat_lit 1 + (1 : Nat)) (Go.Sx.setMany (Go.Sx.setMany (List.map (fun i => [Go.Sx.SV.int Go.IntKind.u64 (0 : Int), Go.Sx.SV.int Go.IntKind.u64 (0 : Int)].getD (i % (2 : Nat)) Inhabited.default) (List.range ((2 : Nat) * (nat_lit 1 + (1 : Nat))))) ((0 : Nat) * (nat_lit 1 + (1 : Nat))) (Go.Sx.SV.agg (List.take Go.Proofs.Try.prog.types[(27 : Nat)].size (List.drop (0 : Nat) (Go.Sx.splice [Go.Sx.SV.int Go.IntKind.u64 (0 : Int), Go.Sx.SV.int Go.IntKind.u64 (0 : Int)] (0 : Nat) (Go.Sx.SV.agg (Go.Sx.setMany [Go.Sx.SV.int Go.IntKind.u64 (0 : Int), Go.Sx.SV.int Go.IntKind.u64 (0 : Int)] (Go.Field.mk "To" (25 : Nat) (1 : Nat) Bool.false "" "" (8 : Nat)).offset (Go.Sx.SV.int Go.IntKind.u64 (4 : Int)).cells)).cells)))).cells) ((1 : Nat) * (nat_lit 1 + (1 : Nat))) (Go.Sx.SV.agg (List.take Go.Proofs.Try.prog.types[(27 : Nat)].size (List.drop (0 : Nat) (Go.Sx.splice [Go.Sx.SV.int Go.IntKind.u64 (0 : Int), Go.Sx.SV.int Go.IntKind.u64 (0 : Int)] (0 : Nat) (Go.Sx.SV.agg (Go.Sx.setMany (Go.Sx.setMany [Go.Sx.SV.int Go.IntKind.u64 (0 : Int), Go.Sx.SV.int Go.IntKind.u64 (0 : Int)] (Go.Field.mk "From" (25 : Nat) (0 : Nat) Bool.false "" "" (0 : Nat)).offset (Go.Sx.SV.int Go.IntKind.u64 (2 : Int)).cells) (Go.Field.mk "To" (25 : Nat) (1 : Nat) Bool.false "" "" (8 : Nat)).offset (Go.Sx.SV.int Go.IntKind.u64 (6 : Int)).cells)).cells)))).cells) i) = Bool.true
def f9_1 : Prop := (0 : Nat) < (2 : Nat)
def f9_2 : Prop := (0 : Nat) = (0 : Nat) ∧ (0 : Nat) ≤ (0 : Nat) ∧ (0 : Nat) + (2 : Nat) ≤ (2 : Nat) ∧ ((0 : Nat) + (2 : Nat)) * Go.Proofs.Try.prog.types[(27 : Nat)].bytes ≤ (140737488355328 : Nat) ∧ (0 : Nat) + (2 : Nat) ≤ (9223372036854775807 : Nat)
def f9_3 : Prop := (∀ (i : Nat), Go.Sx.scpL (0 : Nat) (Go.Sx.rowEl (2 : Nat) (nat_lit 1 + (1 : Nat)) (Go.Sx.setMany (Go.Sx.setMany (List.map (fun i => [Go.Sx.SV.int Go.IntKind.u64 (0 : Int), Go.Sx.SV.int Go.IntKind.u64 (0 : Int)].getD (i % (2 : Nat)) Inhabited.default) (List.range ((2 : Nat) * (nat_lit 1 + (1 : Nat))))) ((0 : Nat) * (nat_lit 1 + (1 : Nat))) (Go.Sx.SV.agg (List.take Go.Proofs.Try.prog.types[(27 : Nat)].size (List.drop (0 : Nat) (Go.Sx.splice [Go.Sx.SV.int Go.IntKind.u64 (0 : Int), Go.Sx.SV.int Go.IntKind.u64 (0 : Int)] (0 : Nat) (Go.Sx.SV.agg (Go.Sx.setMany [Go.Sx.SV.int Go.IntKind.u64 (0 : Int), Go.Sx.SV.int Go.IntKind.u64 (0 : Int)] (Go.Field.mk "To" (25 : Nat) (1 : Nat) Bool.false "" "" (8 : Nat)).offset (Go.Sx.SV.int Go.IntKind.u64 (4 : Int)).cells)).cells)))).cells) ((1 : Nat) * (nat_lit 1 + (1 : Nat))) (Go.Sx.SV.agg (List.take Go.Proofs.Try.prog.types[(27 : Nat)].size (List.drop (0 : Nat) (Go.Sx.splice [Go.Sx.SV.int Go.IntKind.u64 (0 : Int), Go.Sx.SV.int Go.IntKind.u64 (0 : Int)] (0 : Nat) (Go.Sx.SV.agg (Go.Sx.setMany (Go.Sx.setMany [Go.Sx.SV.int Go.IntKind.u64 (0 : Int), Go.Sx.SV.int Go.IntKind.u64 (0 : Int)] (Go.Field.mk "From" (25 : Nat) (0 : Nat) Bool.false "" "" (0 : Nat)).offset (Go.Sx.SV.int Go.IntKind.u64 (2 : Int)).cells) (Go.Field.mk "To" (25 : Nat) (1 : Nat) Bool.false "" "" (8 : Nat)).offset (Go.Sx.SV.int Go.IntKind.u64 (6 : Int)).cells)).cells)))).cells) i) = Bool.true) ∧ ∀ (i : Nat), Go.Sx.scpL (0 : Nat) ((fun i => Go.Sx.rowSet (i.blt (0 : Nat)) (Go.Sx.rowEl (0 : Nat) (nat_lit 1 + (1 : Nat)) (List.map (fun i => [Go.Sx.SV.int Go.IntKind.u64 (0 : Int), Go.Sx.SV.int Go.IntKind.u64 (0 : Int)].getD (i % (2 : Nat)) Inhabited.default) (List.range ((0 : Nat) * (nat_lit 1 + (1 : Nat))))) i) (Go.Sx.rowEl (2 : Nat) (nat_lit 1 + (1 : Nat)) (Go.Sx.setMany (Go.Sx.setMany (List.map (fun i => [Go.Sx.SV.int Go.IntKind.u64 (0 : Int), Go.Sx.SV.int Go.IntKind.u64 (0 : Int)].getD (i % (2 : Nat)) Inhabited.default) (List.range ((2 : Nat) * (nat_lit 1 + (1 : Nat))))) ((0 : Nat) * (nat_lit 1 + (1 : Nat))) (Go.Sx.SV.agg (List.take Go.Proofs.Try.prog.types[(27 : Nat)].size (List.drop (0 : Nat) (Go.Sx.splice [Go.Sx.SV.int Go.IntKind.u64 (0 : Int), Go.Sx.SV.int Go.IntKind.u64 (0 : Int)] (0 : Nat) (Go.Sx.SV.agg (Go.Sx.setMany [Go.Sx.SV.int Go.IntKind.u64 (0 : Int), Go.Sx.SV.int Go.IntKind.u64 (0 : Int)] (Go.Field.mk "To" (25 : Nat) (1 : Nat) Bool.false "" "" (8 : Nat)).offset (Go.Sx.SV.int Go.IntKind.u64 (4 : Int)).cells)).cells)))).cells) ((1 : Nat) * (nat_lit 1 + (1 : Nat))) (Go.Sx.SV.agg (List.take Go.Proofs.Try.prog.types[(27 : Nat)].size (List.drop (0 : Nat) (Go.Sx.splice [Go.Sx.SV.int Go.IntKind.u64 (0 : Int), Go.Sx.SV.int Go.IntKind.u64 (0 : Int)] (0 : Nat) (Go.Sx.SV.agg (Go.Sx.setMany (Go.Sx.setMany [Go.Sx.SV.int Go.IntKind.u64 (0 : Int), Go.Sx.SV.int Go.IntKind.u64 (0 : Int)] (Go.Field.mk "From" (25 : Nat) (0 : Nat) Bool.false "" "" (0 : Nat)).offset (Go.Sx.SV.int Go.IntKind.u64 (2 : Int)).cells) (Go.Field.mk "To" (25 : Nat) (1 : Nat) Bool.false "" "" (8 : Nat)).offset (Go.Sx.SV.int Go.IntKind.u64 (6 : Int)).cells)).cells)))).cells) ((0 : Nat) + (i - (0 : Nat))))) i) = Bool.true
def f9_4 : Prop := ∀ (i : Nat), Go.Sx.scpL (0 : Nat) ((fun i => Go.Sx.rowSet (i.blt (0 : Nat)) (Go.Sx.rowEl (0 : Nat) (nat_lit 1 + (1 : Nat)) (List.map (fun i => [Go.Sx.SV.int Go.IntKind.u64 (0 : Int), Go.Sx.SV.int Go.IntKind.u64 (0 : Int)].getD (i % (2 : Nat)) Inhabited.default) (List.range ((0 : Nat) * (nat_lit 1 + (1 : Nat))))) i) (Go.Sx.rowEl (2 : Nat) (nat_lit 1 + (1 : Nat)) (Go.Sx.setMany (Go.Sx.setMany (List.map (fun i => [Go.Sx.SV.int Go.IntKind.u64 (0 : Int), Go.Sx.SV.int Go.IntKind.u64 (0 : Int)].getD (i % (2 : Nat)) Inhabited.default) (List.range ((2 : Nat) * (nat_lit 1 + (1 : Nat))))) ((0 : Nat) * (nat_lit 1 + (1 : Nat))) (Go.Sx.SV.agg (List.take Go.Proofs.Try.prog.types[(27 : Nat)].size (List.drop (0 : Nat) (Go.Sx.splice [Go.Sx.SV.int Go.IntKind.u64 (0 : Int), Go.Sx.SV.int Go.IntKind.u64 (0 : Int)] (0 : Nat) (Go.Sx.SV.agg (Go.Sx.setMany [Go.Sx.SV.int Go.IntKind.u64 (0 : Int), Go.Sx.SV.int Go.IntKind.u64 (0 : Int)] (Go.Field.mk "To" (25 : Nat) (1 : Nat) Bool.false "" "" (8 : Nat)).offset (Go.Sx.SV.int Go.IntKind.u64 (4 : Int)).cells)).cells)))).cells) ((1 : Nat) * (nat_lit 1 + (1 : Nat))) (Go.Sx.SV.agg (List.take Go.Proofs.Try.prog.types[(27 : Nat)].size (List.drop (0 : Nat) (Go.Sx.splice [Go.Sx.SV.int Go.IntKind.u64 (0 : Int), Go.Sx.SV.int Go.IntKind.u64 (0 : Int)] (0 : Nat) (Go.Sx.SV.agg (Go.Sx.setMany (Go.Sx.setMany [Go.Sx.SV.int Go.IntKind.u64 (0 : Int), Go.Sx.SV.int Go.IntKind.u64 (0 : Int)] (Go.Field.mk "From" (25 : Nat) (0 : Nat) Bool.false "" "" (0 : Nat)).offset (Go.Sx.SV.int Go.IntKind.u64 (2 : Int)).cells) (Go.Field.mk "To" (25 : Nat) (1 : Nat) Bool.false "" "" (8 : Nat)).offset (Go.Sx.SV.int Go.IntKind.u64 (6 : Int)).cells)).cells)))).cells) ((0 : Nat) + (i - (0 : Nat))))) i) = Bool.true
def f9_5 : Prop := (Bool.true = Bool.true → (0 : Int) ≤ (1 : Int) ∧ (1 : Int) < (2 : Int)) ∧ (Bool.true = Bool.true → (0 : Nat) + Int.toNat (1 : Int) < (0 : Nat) + (2 : Nat)) ∧ (Bool.true = Bool.true → (0 : Int) ≤ (0 : Int) ∧ (0 : Int) < (2 : Int)) ∧ (Bool.true = Bool.true → (0 : Nat) + Int.toNat (0 : Int) < (0 : Nat) + (2 : Nat))
def f9_6 : Prop := (0 : Int) ≤ (0 : Int) ∧ (0 : Int) < (2 : Int)
def f9_7 : Prop := (0 : Nat) + Int.toNat (0 : Int) < (0 : Nat) + (2 : Nat)
def f9_8 : Prop := (0 : Int) ≤ (1 : Int) ∧ (1 : Int) < (2 : Int)
def f9_9 : Prop := (0 : Nat) + Int.toNat (1 : Int) < (0 : Nat) + (2 : Nat)
def f9_10 : Prop := (Bool.false = Bool.true → False) ∧ (Bool.false = Bool.true → False) ∧ (Bool.false = Bool.true → False)
def f9_11 : Prop := (Bool.false = Bool.true → False) ∧ (Bool.false = Bool.true → False)
def f9_12 : Prop := (0 : Nat) + (1 : Nat) ≤ (1 : Nat) ∧ (1 : Nat) * Go.Proofs.Try.prog.types[(27 : Nat)].bytes ≤ (140737488355328 : Nat) ∧ (1 : Nat) ≤ (9223372036854775807 : Nat)
def f9_13 : Prop := (Bool.true = Bool.true → (0 : Int) ≤ (0 : Int) ∧ (0 : Int) < (1 : Int)) ∧ (Bool.true = Bool.true → (0 : Nat) + Int.toNat (0 : Int) < (1 : Nat))
theorem n9_0 : f9_0  := by
  unfold f9_0
  (repeat' first
    | apply And.intro
    | intro _
    | apply scpL_rowSet)
  all_goals first
    | exact scpL_rowEl (by kernel_rfl) _
    | exact scpL_chunk (by kernel_rfl)
    | rfl
    | omega
    | decide
    | decide +kernel
theorem n9_1 : f9_1  := by
  simp only [f9_1, cnd_eq]
  grind (splits := 40)
theorem n9_2 : f9_2  := by
  unfold f9_2
  (repeat' first
    | apply And.intro
    | intro _
    | apply scpL_rowSet)
  all_goals first
    | exact scpL_rowEl (by kernel_rfl) _
    | exact scpL_chunk (by kernel_rfl)
    | rfl
    | omega
    | decide
    | decide +kernel
theorem n9_3 : f9_3  := by
  unfold f9_3
  (repeat' first
    | apply And.intro
    | intro _
    | apply scpL_rowSet)
  all_goals first
    | exact scpL_rowEl (by kernel_rfl) _
    | exact scpL_chunk (by kernel_rfl)
    | rfl
    | omega
    | decide
    | decide +kernel
theorem n9_4 : f9_4  := by
  unfold f9_4
  (repeat' first
    | apply And.intro
    | intro _
    | apply scpL_rowSet)
  all_goals first
    | exact scpL_rowEl (by kernel_rfl) _
    | exact scpL_chunk (by kernel_rfl)
    | rfl
    | omega
    | decide
    | decide +kernel
theorem n9_5 : f9_5  := by
  simp only [f9_5, cnd_eq]
  grind (splits := 40)
theorem n9_6 : f9_6  := by
  simp only [f9_6, cnd_eq]
  grind (splits := 40)
theorem n9_7 : f9_7  := by
  simp only [f9_7, cnd_eq]
  grind (splits := 40)
theorem n9_8 : f9_8  := by
  simp only [f9_8, cnd_eq]
  grind (splits := 40)
theorem n9_9 : f9_9  := by
  simp only [f9_9, cnd_eq]
  grind (splits := 40)
theorem n9_10 : f9_10  := by
  simp only [f9_10, cnd_eq]
  grind (splits := 40)
theorem n9_11 : f9_11  := by
  simp only [f9_11, cnd_eq]
  grind (splits := 40)
theorem n9_12 : f9_12  := by
  unfold f9_12
  (repeat' first
    | apply And.intro
    | intro _
    | apply scpL_rowSet)
  all_goals first
    | exact scpL_rowEl (by kernel_rfl) _
    | exact scpL_chunk (by kernel_rfl)
    | rfl
    | omega
    | decide
    | decide +kernel
theorem n9_13 : f9_13  := by
  simp only [f9_13, cnd_eq]
  grind (splits := 40)
def f9 : List SV → Option (Tr SV)
  | [] => some (Go.Sx.Tr.leaf (Go.Sx.SV.bool (Bool.true)))
  | _ => none
theorem s9 : Sound Try.prog th 9 (pureC f9) := pure_auto2 (us := us9) (nice := nice42) nok42 20 fun args t h => by
  unfold f9 at h
  split at h
  · skip
    cases h
    refine ⟨(Go.Sx.Tr.need (f9_0) (Go.Sx.Tr.need (f9_0) (Go.Sx.Tr.need (f9_0) (Go.Sx.Tr.need (f9_0) (Go.Sx.Tr.need (f9_1) (Go.Sx.Tr.need (f9_2) (Go.Sx.Tr.need (f9_3) (Go.Sx.Tr.need (f9_4) (Go.Sx.Tr.need (f9_4) (Go.Sx.Tr.need (f9_4) (Go.Sx.Tr.need (f9_5) (Go.Sx.Tr.need (f9_4) (Go.Sx.Tr.need (f9_4) (Go.Sx.Tr.need (f9_4) (Go.Sx.Tr.need (f9_3) (Go.Sx.Tr.need (f9_4) (Go.Sx.Tr.need (f9_4) (Go.Sx.Tr.need (f9_6) (Go.Sx.Tr.need (f9_7) (Go.Sx.Tr.need (f9_8) (Go.Sx.Tr.need (f9_9) (Go.Sx.Tr.need (f9_4) (Go.Sx.Tr.need (f9_4) (Go.Sx.Tr.need (f9_3) (Go.Sx.Tr.need (f9_6) (Go.Sx.Tr.need (f9_7) (Go.Sx.Tr.need (f9_8) (Go.Sx.Tr.need (f9_9) (Go.Sx.Tr.need (f9_0) (Go.Sx.Tr.need (f9_0) (Go.Sx.Tr.need (f9_0) (Go.Sx.Tr.need (f9_0) (Go.Sx.Tr.need (f9_0) (Go.Sx.Tr.need (f9_1) (Go.Sx.Tr.need (f9_2) (Go.Sx.Tr.need (f9_3) (Go.Sx.Tr.need (f9_4) (Go.Sx.Tr.need (f9_4) (Go.Sx.Tr.need (f9_4) (Go.Sx.Tr.need (f9_5) (Go.Sx.Tr.need (f9_4) (Go.Sx.Tr.need (f9_4) (Go.Sx.Tr.need (f9_4) (Go.Sx.Tr.need (f9_3) (Go.Sx.Tr.need (f9_4) (Go.Sx.Tr.need (f9_4) (Go.Sx.Tr.need (f9_6) (Go.Sx.Tr.need (f9_7) (Go.Sx.Tr.need (f9_8) (Go.Sx.Tr.need (f9_9) (Go.Sx.Tr.need (f9_4) (Go.Sx.Tr.need (f9_4) (Go.Sx.Tr.need (f9_3) (Go.Sx.Tr.need (f9_6) (Go.Sx.Tr.need (f9_7) (Go.Sx.Tr.need (f9_10) (Go.Sx.Tr.need (f9_11) (Go.Sx.Tr.need (f9_12) (Go.Sx.Tr.need (f9_8) (Go.Sx.Tr.need (f9_9) (Go.Sx.Tr.need (f9_13) (Go.Sx.Tr.need (f9_13) (Go.Sx.Tr.need (f9_0) (Go.Sx.Tr.leaf (Go.Sx.SV.bool (Bool.true)))))))))))))))))))))))))))))))))))))))))))))))))))))))))))))))))), by kernel_rfl, fun ok => ?_, rfl⟩
    first
    | (simp only [Tr.ok, n9_0, n9_1, n9_2, n9_3, n9_4, n9_5, n9_6, n9_7, n9_8, n9_9, n9_10, n9_11, n9_12, n9_13, true_and, and_true, forall_const, implies_true]; done)
    | (simp only [Tr.ok, n9_0, n9_1, n9_2, n9_3, n9_4, n9_5, n9_6, n9_7, n9_8, n9_9, n9_10, n9_11, n9_12, n9_13, true_and, and_true, forall_const, implies_true]; done)
    | (simpa only [Tr.ok, n9_0, n9_1, n9_2, n9_3, n9_4, n9_5, n9_6, n9_7, n9_8, n9_9, n9_10, n9_11, n9_12, n9_13, true_and, and_true, forall_const, implies_true] using ok; done)
    | (simp only [Tr.ok, n9_0, n9_1, n9_2, n9_3, n9_4, n9_5, n9_6, n9_7, n9_8, n9_9, n9_10, n9_11, n9_12, n9_13, true_and, and_true, forall_const, implies_true] at ok ⊢; grind)
  · cases h
noncomputable def nice9 : List (Nat × CF th.R) := (9, pureC f9) :: nice42
theorem nok9 : NiceOk Try.prog th nice9 := ⟨s9, nok42⟩
end Go.Sx.S

namespace Go.Sx.S
open Go Go.Sx Go.Proofs Go.RowKit
def us4 : List Un := [⟨34, [(3, 3)], [9]⟩, ⟨43, [(1, 3), (4, 3)], [14, 34]⟩, ⟨39, [(2, 2), (7, 2)], [13, 30]⟩, ⟨45, [(2, 4)], [9, 16]⟩, ⟨41, [(5, 4)], [12, 19, 29]⟩, ⟨31, [], [4]⟩, ⟨26, [(3, 4)], [11, 17]⟩, ⟨21, [(4, 4), (6, 4)], [12, 29, 48]⟩, ⟨9, [], [8, 14, 20, 27]⟩]
def e4_0 (f : Int) (t : Int) (f2 : Int) (t2 : Int) (a : Int) : Bool := cnd (cnd (cnd (cnd (cnd (!f11_0 f t == f12_0 f t) Bool.true !f13_0 f t f2 t2 == f14_0 f t f2 t2) Bool.true !f13_0 f t f2 t2 == f13_0 f2 t2 f t) Bool.true !f15_0 f t f2 t2 == f16_0 f t f2 t2) Bool.true !f17_0 f t a == f18_0 f t a) Bool.false (cnd (cnd (cnd (!f15_0 f t f2 t2) Bool.true !f17_0 f t a) Bool.true (f17_0 f2 t2 a)) (cnd (cnd (!f17_0 f t a) Bool.true !f17_0 f2 t2 a) Bool.true (f13_0 f t f2 t2)) Bool.false)
noncomputable def tb4 : Nat → Option (CF th.R) := auto th Try.prog nice9 us4 20
theorem tb4_ok : ∀ k C, tb4 k = some C → Sound Try.prog th k C := auto_sound (nice := nice9) (us := us4) nok9 20
def i4 (x y x2 y2 a f t f2 t2 : Int) (z u v : Bool) (d ws : List Nat) : St th.R := ⟨[some (.agg [.int .u64 x, .int .u64 y]), some (.agg [.int .u64 x2, .int .u64 y2]), some (.int .u64 a), some (.ptr 0 0), some (.ptr 1 0), none, some (.bool z), none, none, some (.bool u), some (.bool v), none, none, none, none, none, none, none, none, none, none, none, none, none, none, none, none, none, none, none, none, none, none, none, none, none, none, none, none, none, none, none, none, none, none, none, none, none, none, none, none, none, none, none, none, none, none, none, none, none, none, none, none, none, none, none, none, none, none, none, none, none, none, none, none, none, none, none, none, none, none, none, none, none, none, none], [.cells 27 [.int .u64 f, .int .u64 t], .cells 27 [.int .u64 f2, .int .u64 t2]], d, ws⟩
def o4 (x y x2 y2 a f t f2 t2 : Int) (z u v : Bool) (d ws : List Nat) : St th.R := ⟨[some (.agg [.int .u64 x, .int .u64 y]), some (.agg [.int .u64 x2, .int .u64 y2]), some (.int .u64 a), some (.ptr 0 0), some (.ptr 1 0), none, some (.bool z), some (.ptr 2 0), some (.ptr 3 0), some (.bool u), some (.bool v), some (.agg [.int .u64 f, .int .u64 t]), some (.agg [.int .u64 f2, .int .u64 t2]), none, none, none, none, none, none, none, none, none, none, none, none, none, none, none, none, none, none, none, none, none, none, none, none, none, none, none, none, none, none, none, none, none, none, none, none, none, none, none, none, none, none, none, none, none, none, none, none, none, none, none, none, none, none, none, none, none, none, none, none, none, none, none, none, none, none, none, none, none, none, none, none, none], [.cells 27 [.int .u64 f, .int .u64 t], .cells 27 [.int .u64 f2, .int .u64 t2], .cells 29 [.int .u64 f, .int .u64 t], .cells 29 [.int .u64 f2, .int .u64 t2]], 3 :: 2 :: d, 8 :: 7 :: 12 :: 11 :: ws⟩
def L4 (st : St th.R) : Out th := match st with
  | ⟨some (.agg [.int .u64 x, .int .u64 y]) :: some (.agg [.int .u64 x2, .int .u64 y2]) :: some (.int .u64 a) :: some (.ptr 0 0) :: some (.ptr 1 0) :: none :: some (.bool z) :: none :: none :: some (.bool u) :: some (.bool v) :: rest, [.cells 27 [.int .u64 f, .int .u64 t], .cells 27 [.int .u64 f2, .int .u64 t2]], d, ws⟩ => some (.need (rest = List.replicate 75 none) (.leaf (.normal, o4 x y x2 y2 a f t f2 t2 z u v d ws)))
  | _ => none
noncomputable def endsOf (r : Ans th) : List (List (Option SV) × List (HO th.R)) := match r with
  | some x => x.2
  | none => []
set_option maxRecDepth 100000 in
theorem L4_sound : CodeSound th Try.prog (.region 3 (regNo Try.prog 4 0).2 true) L4 := by
  intro st tr h hok
  unfold L4 at h
  split at h
  · rename_i x y x2 y2 a z u v rest f t f2 t2 d ws
    cases h
    obtain ⟨hr, _⟩ := hok
    subst hr
    exact anyReg_at (id := 3) (tbl := tb4) tb4_ok (ops := (regNo Try.prog 4 0).2) (sl := [7, 8]) (st := i4 x y x2 y2 a f t f2 t2 z u v d ws) (F := o4 x y x2 y2 a f t f2 t2 z u v d ws) (p := none) (q := none)
      (l := endsOf (evAny th Try.prog tb4 (regNo Try.prog 4 0).2 2 [7, 8] 6 (Array.replicate 6 false) (i4 x y x2 y2 a f t f2 t2 z u v d ws))) (t := .leaf (o4 x y x2 y2 a f t f2 t2 z u v d ws))
      (by kernel_rfl) (by kernel_rfl) (by kernel_rfl) trivial (by kernel_rfl) trivial (by kernel_rfl)
  · cases h
noncomputable def H4 : Hints th := oneReg 3 L4 (fun _ => false)
noncomputable def f4 : List SV → Option (Tr SV)
  | [.agg [.int .u64 f, .int .u64 t], .agg [.int .u64 f2, .int .u64 t2], .int .u64 a] => some (.leaf (.bool (e4_0 f t f2 t2 a)))
  | _ => none
theorem s4 : Sound Try.prog th 4 (pureC f4) := pure_fn (tbl := tb4) (H := H4) tb4_ok (oneReg_ok (j := 0) (by kernel_rfl) L4_sound) fun args t h hok => by
  unfold f4 at h
  split at h
  · rename_i f t f2 t2 a
    cases h
    refine ⟨.need (false = false → List.replicate 75 (none : Option SV) = List.replicate 75 none) (.leaf (.bool (e4_0 f t f2 t2 a), [], [])), by kernel_rfl, ⟨fun _ => rfl, trivial⟩, rfl⟩
  · cases h
noncomputable def nice4 : List (Nat × CF th.R) := (4, pureC f4) :: nice9
theorem nok4 : NiceOk Try.prog th nice4 := ⟨s4, nok9⟩
end Go.Sx.S

