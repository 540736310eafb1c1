/- Contracts of the functions of this seat, each by the executor and the kernel; part 1. Their conditions stand in each. -/
import Derived.Test.YtloeihhocifnpaaSx2
import Derived.Test.YtloeihhocifnpaaProg
set_option linter.unusedVariables false
set_option linter.unusedSimpArgs false
namespace Go.Sx.A
open Go Go.Sx Go.Proofs Go.RowKit
def th : Theory := { R := Empty, holds := (fun r => nomatch r), keep := (fun {r} => nomatch r), merge := (fun _ a => nomatch a), merge_spec := (fun {_ a} => nomatch a) }
end Go.Sx.A

namespace Go.Sx.A
open Go Go.Sx Go.Proofs Go.RowKit
def us59 : List Un := [⟨59, [(2, 6)], [6]⟩]
def f59_0 (x : Int) : Int := Go.Sx.cnd ((39 : Int) == x) (0 : Int) (Go.Sx.cnd ((30 : Int) == x) (1 : Int) (Go.Sx.cnd ((21 : Int) == x) (2 : Int) (Go.Sx.cnd ((12 : Int) == x) (3 : Int) (0 : Int))))
def f59_1 (x : Int) : Bool := Go.Sx.cnd ((39 : Int) == x) Bool.true (Go.Sx.cnd ((30 : Int) == x) Bool.true (Go.Sx.cnd ((21 : Int) == x) Bool.true (Go.Sx.cnd ((12 : Int) == x) Bool.true Bool.false)))
def f59 : List SV → Option (Tr SV)
  | [.int .i64 x] => some (Go.Sx.Tr.leaf (Go.Sx.SV.tup (List.cons (Go.Sx.SV.int (Go.IntKind.i64) (f59_0 x)) (List.cons (Go.Sx.SV.bool (f59_1 x)) (List.nil)))))
  | _ => none
theorem s59 : Sound Try.prog th 59 (pureC f59) := pure_auto (us := us59) (nice := ([] : List (Nat × CF th.R))) trivial 20 fun args t h => by
  unfold f59 at h
  split at h
  · cases h; kernel_rfl
  · cases h
def nice59 : List (Nat × CF th.R) := (59, pureC f59) :: ([] : List (Nat × CF th.R))
theorem nok59 : NiceOk Try.prog th nice59 := ⟨s59, trivial⟩
end Go.Sx.A

namespace Go.Sx.A
open Go Go.Sx Go.Proofs Go.RowKit
def us57 : List Un := [⟨59, [(2, 6)], [6]⟩]
def f57_0 (k : Int) (b : Int) : Int := Go.Sx.cnd (Go.Sx.cnd (k == (0 : Int)) (k == (0 : Int)) (k == (6 : Int))) (-1 : Int) (Go.Sx.cnd (k == (1 : Int)) b (Go.Sx.cnd (Go.Sx.cnd (k == (2 : Int)) (k == (2 : Int)) (k == (10 : Int))) (Go.IntKind.i64.wrap (b + (5 : Int))) (Go.Sx.cnd (k == (3 : Int)) b (Go.Sx.cnd (Go.Sx.cnd (k == (4 : Int)) (k == (4 : Int)) (Go.Sx.cnd (k == (5 : Int)) (k == (5 : Int)) (k == (7 : Int)))) b (Go.Sx.cnd (k == (8 : Int)) b (Go.Sx.cnd (k == (9 : Int)) b (-1 : Int)))))))
def f57_1 (k : Int) (b : Int) : Bool := Go.Sx.cnd (Go.Sx.cnd (k == (0 : Int)) (k == (0 : Int)) (k == (6 : Int))) (b == (0 : Int)) (Go.Sx.cnd (k == (1 : Int)) (Go.Sx.cnd (Decidable.decide (b ≥ (5 : Int))) (Decidable.decide (b ≤ (32 : Int))) Bool.false) (Go.Sx.cnd (Go.Sx.cnd (k == (2 : Int)) (k == (2 : Int)) (k == (10 : Int))) (Go.Sx.cnd (Decidable.decide (b ≥ (1 : Int))) (Decidable.decide (b ≤ (12 : Int))) Bool.false) (Go.Sx.cnd (k == (3 : Int)) (Go.Sx.cnd (Go.Sx.A.f59_1 b) (Decidable.decide (Go.Sx.A.f59_0 b > (0 : Int))) Bool.false) (Go.Sx.cnd (Go.Sx.cnd (k == (4 : Int)) (k == (4 : Int)) (Go.Sx.cnd (k == (5 : Int)) (k == (5 : Int)) (k == (7 : Int)))) (b == (12 : Int)) (Go.Sx.cnd (k == (8 : Int)) (b == (7 : Int)) (Go.Sx.cnd (k == (9 : Int)) (b == (5 : Int)) Bool.false))))))
def f57 : List SV → Option (Tr SV)
  | [.int .i64 k, .int .i64 b] => some (Go.Sx.Tr.leaf (Go.Sx.SV.tup (List.cons (Go.Sx.SV.int (Go.IntKind.i64) (f57_0 k b)) (List.cons (Go.Sx.SV.bool (f57_1 k b)) (List.nil)))))
  | _ => none
theorem s57 : Sound Try.prog th 57 (pureC f57) := pure_auto (us := us57) (nice := nice59) nok59 20 fun args t h => by
  unfold f57 at h
  split at h
  · cases h; kernel_rfl
  · cases h
def nice57 : List (Nat × CF th.R) := (57, pureC f57) :: nice59
theorem nok57 : NiceOk Try.prog th nice57 := ⟨s57, nok59⟩
end Go.Sx.A

namespace Go.Sx.A
open Go Go.Sx Go.Proofs Go.RowKit
def us58 : List Un := [⟨59, [(2, 6)], [6]⟩]
def f58_0 (n : Int) : Prop := Decidable.decide (n < (1 : Int)) = Bool.false → Decidable.decide (n ≥ (64 : Int)) = Bool.false → (0 : Int) ≤ n
def f58_1 (n : Int) : Int := Go.Sx.cnd (Decidable.decide (n < (1 : Int))) (0 : Int) (Go.Sx.cnd (Decidable.decide (n ≥ (64 : Int))) (18446744073709551615 : Int) (Go.IntKind.u64.wrap (Go.IntKind.u64.wrap ((1 : Int) * (2 : Int) ^ Min.min n.toNat Go.IntKind.u64.bits) - (1 : Int))))
theorem n58_0 (n : Int) : f58_0 n := by
  simp only [f58_0, cnd_eq]
  grind (splits := 40)
def f58 : List SV → Option (Tr SV)
  | [.int .i64 n] => some (Go.Sx.Tr.leaf (Go.Sx.SV.int (Go.IntKind.u64) (f58_1 n)))
  | _ => none
theorem s58 : Sound Try.prog th 58 (pureC f58) := pure_auto2 (us := us58) (nice := nice57) nok57 20 fun args t h => by
  unfold f58 at h
  split at h
  · rename_i n
    cases h
    refine ⟨(Go.Sx.Tr.need (f58_0 n) (Go.Sx.Tr.leaf (Go.Sx.SV.int (Go.IntKind.u64) (f58_1 n)))), by kernel_rfl, fun ok => ?_, rfl⟩
    first
    | (simp only [Tr.ok, n58_0, true_and, and_true, forall_const, implies_true]; done)
    | (simp only [Tr.ok, n58_0, true_and, and_true, forall_const, implies_true]; done)
    | (simpa only [Tr.ok, n58_0, true_and, and_true, forall_const, implies_true] using ok; done)
    | (simp only [Tr.ok, n58_0, true_and, and_true, forall_const, implies_true] at ok ⊢; grind)
  · cases h
def nice58 : List (Nat × CF th.R) := (58, pureC f58) :: nice57
theorem nok58 : NiceOk Try.prog th nice58 := ⟨s58, nok57⟩
end Go.Sx.A

namespace Go.Sx.A
open Go Go.Sx Go.Proofs Go.RowKit
def us49 : List Un := [⟨59, [(2, 6)], [6]⟩]
def f49_0 (r : Int) : Bool := Go.Sx.cnd (Decidable.decide (r ≥ (0 : Int))) (Decidable.decide (r ≤ (7 : Int))) Bool.false
def f49 : List SV → Option (Tr SV)
  | [.int .i64 r] => some (Go.Sx.Tr.leaf (Go.Sx.SV.bool (f49_0 r)))
  | _ => none
theorem s49 : Sound Try.prog th 49 (pureC f49) := pure_auto (us := us49) (nice := nice58) nok58 20 fun args t h => by
  unfold f49 at h
  split at h
  · cases h; kernel_rfl
  · cases h
def nice49 : List (Nat × CF th.R) := (49, pureC f49) :: nice58
theorem nok49 : NiceOk Try.prog th nice49 := ⟨s49, nok58⟩
end Go.Sx.A

namespace Go.Sx.A
open Go Go.Sx Go.Proofs Go.RowKit
def us50 : List Un := [⟨59, [(2, 6)], [6]⟩]
def f50_0 (a : Int) (b : Int) : Bool := Go.Sx.cnd (Go.Sx.cnd (Go.Sx.A.f49_0 a) (Go.Sx.A.f49_0 b) Bool.false) (Go.bits Go.BinOp.andNot Go.IntKind.i64 a b == (0 : Int)) Bool.false
def f50 : List SV → Option (Tr SV)
  | [.int .i64 a, .int .i64 b] => some (Go.Sx.Tr.leaf (Go.Sx.SV.bool (f50_0 a b)))
  | _ => none
theorem s50 : Sound Try.prog th 50 (pureC f50) := pure_auto (us := us50) (nice := nice49) nok49 20 fun args t h => by
  unfold f50 at h
  split at h
  · cases h; kernel_rfl
  · cases h
def nice50 : List (Nat × CF th.R) := (50, pureC f50) :: nice49
theorem nok50 : NiceOk Try.prog th nice50 := ⟨s50, nok49⟩
end Go.Sx.A

namespace Go.Sx.A
open Go Go.Sx Go.Proofs Go.RowKit
def us60 : List Un := [⟨59, [(2, 6)], [6]⟩]
def f60_0 (w : Int) (n : Int) : Bool := Go.bits Go.BinOp.and Go.IntKind.u64 w (Go.Sx.A.f58_1 n) == (0 : Int)
def f60 : List SV → Option (Tr SV)
  | [.int .u64 w, .int .i64 n] => some (Go.Sx.Tr.leaf (Go.Sx.SV.bool (f60_0 w n)))
  | _ => none
theorem s60 : Sound Try.prog th 60 (pureC f60) := pure_auto (us := us60) (nice := nice50) nok50 20 fun args t h => by
  unfold f60 at h
  split at h
  · cases h; kernel_rfl
  · cases h
def nice60 : List (Nat × CF th.R) := (60, pureC f60) :: nice50
theorem nok60 : NiceOk Try.prog th nice60 := ⟨s60, nok50⟩
end Go.Sx.A

namespace Go.Sx.A
open Go Go.Sx Go.Proofs Go.RowKit
def us36 : List Un := [⟨59, [(2, 6)], [6]⟩]
def f36_0 (l : Int) : Int := Go.Sx.cnd (Go.Sx.cnd (Decidable.decide (l < (0 : Int))) Bool.true (Decidable.decide (l ≥ (4 : Int)))) (0 : Int) (Go.IntKind.i64.wrap ((12 : Int) + Go.IntKind.i64.wrap ((9 : Int) * Go.IntKind.i64.wrap ((3 : Int) - l))))
def f36 : List SV → Option (Tr SV)
  | [.int .i64 l] => some (Go.Sx.Tr.leaf (Go.Sx.SV.int (Go.IntKind.i64) (f36_0 l)))
  | _ => none
theorem s36 : Sound Try.prog th 36 (pureC f36) := pure_auto (us := us36) (nice := nice60) nok60 20 fun args t h => by
  unfold f36 at h
  split at h
  · cases h; kernel_rfl
  · cases h
def nice36 : List (Nat × CF th.R) := (36, pureC f36) :: nice60
theorem nok36 : NiceOk Try.prog th nice36 := ⟨s36, nok60⟩
end Go.Sx.A

namespace Go.Sx.A
open Go Go.Sx Go.Proofs Go.RowKit
def us51 : List Un := [⟨59, [(2, 6)], [6]⟩]
def f51_0 (k : Int) (a : Int) (b : Int) (r : Int) (g : Int) (s : Int) (m : Int) : Bool := Go.Sx.cnd (Go.Sx.cnd (!Go.Sx.A.f57_1 k b) Bool.true (Decidable.decide (Go.Sx.A.f57_0 k b < (0 : Int)))) (Go.Sx.cnd (Go.Sx.A.f57_1 k b) (a == (0 : Int)) Bool.false) (Go.Sx.cnd (Go.Sx.cnd (Go.Sx.A.f60_0 a (Go.Sx.A.f57_0 k b)) (Decidable.decide (a < (4294967296 : Int))) Bool.false) (Decidable.decide (Go.IntKind.u64.wrap (Go.Sx.A.f58_1 (Go.Sx.A.f57_0 k b) + (1 : Int)) ≤ Go.IntKind.u64.wrap ((4294967296 : Int) - a))) Bool.false)
def f51 : List SV → Option (Tr SV)
  | [.agg [.int .i64 k, .int .u64 a, .int .i64 b, .int .i64 r, .int .i64 g, .int .i64 s, .int .u64 m]] => some (Go.Sx.Tr.leaf (Go.Sx.SV.bool (f51_0 k a b r g s m)))
  | _ => none
theorem s51 : Sound Try.prog th 51 (pureC f51) := pure_auto (us := us51) (nice := nice36) nok36 20 fun args t h => by
  unfold f51 at h
  split at h
  · cases h; kernel_rfl
  · cases h
def nice51 : List (Nat × CF th.R) := (51, pureC f51) :: nice36
theorem nok51 : NiceOk Try.prog th nice51 := ⟨s51, nok36⟩
end Go.Sx.A

namespace Go.Sx.A
open Go Go.Sx Go.Proofs Go.RowKit
def us70 : List Un := [⟨59, [(2, 6)], [6]⟩]
def f70_0 (w : Int) : Prop := (0 : Int) ≤ (48 : Int)
def f70_1 (w : Int) : Bool := w.fdiv (281474976710656 : Int) == (0 : Int)
theorem n70_0 (w : Int) : f70_0 w := by
  simp only [f70_0, cnd_eq]
  grind (splits := 40)
def f70 : List SV → Option (Tr SV)
  | [.int .u64 w] => some (Go.Sx.Tr.leaf (Go.Sx.SV.bool (f70_1 w)))
  | _ => none
theorem s70 : Sound Try.prog th 70 (pureC f70) := pure_auto2 (us := us70) (nice := nice51) nok51 20 fun args t h => by
  unfold f70 at h
  split at h
  · rename_i w
    cases h
    refine ⟨(Go.Sx.Tr.need (f70_0 w) (Go.Sx.Tr.leaf (Go.Sx.SV.bool (f70_1 w)))), by kernel_rfl, fun ok => ?_, rfl⟩
    first
    | (simp only [Tr.ok, n70_0, true_and, and_true, forall_const, implies_true]; done)
    | (simp only [Tr.ok, n70_0, true_and, and_true, forall_const, implies_true]; done)
    | (simpa only [Tr.ok, n70_0, true_and, and_true, forall_const, implies_true] using ok; done)
    | (simp only [Tr.ok, n70_0, true_and, and_true, forall_const, implies_true] at ok ⊢; grind)
  · cases h
def nice70 : List (Nat × CF th.R) := (70, pureC f70) :: nice51
theorem nok70 : NiceOk Try.prog th nice70 := ⟨s70, nok51⟩
end Go.Sx.A

namespace Go.Sx.A
open Go Go.Sx Go.Proofs Go.RowKit
def us74 : List Un := [⟨59, [(2, 6)], [6]⟩]
def f74_0 (n : Int) : Bool := Go.Sx.cnd (Decidable.decide (n ≥ (0 : Int))) (Decidable.decide (n < (4 : Int))) Bool.false
def f74 : List SV → Option (Tr SV)
  | [.int .i64 n] => some (Go.Sx.Tr.leaf (Go.Sx.SV.bool (f74_0 n)))
  | _ => none
theorem s74 : Sound Try.prog th 74 (pureC f74) := pure_auto (us := us74) (nice := nice70) nok70 20 fun args t h => by
  unfold f74 at h
  split at h
  · cases h; kernel_rfl
  · cases h
def nice74 : List (Nat × CF th.R) := (74, pureC f74) :: nice70
theorem nok74 : NiceOk Try.prog th nice74 := ⟨s74, nok70⟩
end Go.Sx.A

namespace Go.Sx.A
open Go Go.Sx Go.Proofs Go.RowKit
def us75 : List Un := [⟨59, [(2, 6)], [6]⟩]
def f75_0 (w : Int) (n : Int) : Int := Go.bits Go.BinOp.andNot Go.IntKind.u64 w (Go.Sx.A.f58_1 n)
def f75 : List SV → Option (Tr SV)
  | [.int .u64 w, .int .i64 n] => some (Go.Sx.Tr.leaf (Go.Sx.SV.int (Go.IntKind.u64) (f75_0 w n)))
  | _ => none
theorem s75 : Sound Try.prog th 75 (pureC f75) := pure_auto (us := us75) (nice := nice74) nok74 20 fun args t h => by
  unfold f75 at h
  split at h
  · cases h; kernel_rfl
  · cases h
def nice75 : List (Nat × CF th.R) := (75, pureC f75) :: nice74
theorem nok75 : NiceOk Try.prog th nice75 := ⟨s75, nok74⟩
end Go.Sx.A

namespace Go.Sx.A
open Go Go.Sx Go.Proofs Go.RowKit
def us71 : List Un := [⟨59, [(2, 6)], [6]⟩]
def f71_0 (w : Int) (n : Int) : Int := Go.Sx.cnd (!Go.Sx.A.f74_0 n) (0 : Int) (Go.Sx.A.f75_0 (Go.bits Go.BinOp.and Go.IntKind.u64 w (281474976710655 : Int)) (Go.Sx.A.f36_0 n))
def f71 : List SV → Option (Tr SV)
  | [.int .u64 w, .int .i64 n] => some (Go.Sx.Tr.leaf (Go.Sx.SV.int (Go.IntKind.u64) (f71_0 w n)))
  | _ => none
theorem s71 : Sound Try.prog th 71 (pureC f71) := pure_auto (us := us71) (nice := nice75) nok75 20 fun args t h => by
  unfold f71 at h
  split at h
  · cases h; kernel_rfl
  · cases h
def nice71 : List (Nat × CF th.R) := (71, pureC f71) :: nice75
theorem nok71 : NiceOk Try.prog th nice71 := ⟨s71, nok75⟩
end Go.Sx.A

namespace Go.Sx.A
open Go Go.Sx Go.Proofs Go.RowKit
def us65 : List Un := [⟨59, [(2, 6)], [6]⟩]
def f65_0 (k : Int) (a : Int) (b : Int) (r : Int) (g : Int) (s : Int) (m : Int) (l : Int) : Bool := Go.Sx.cnd (s == (0 : Int)) (m == (0 : Int)) (Go.Sx.cnd (Go.Sx.A.f70_1 m) (Go.Sx.A.f71_0 m l == m) Bool.false)
def f65 : List SV → Option (Tr SV)
  | [.agg [.int .i64 k, .int .u64 a, .int .i64 b, .int .i64 r, .int .i64 g, .int .i64 s, .int .u64 m], .int .i64 l] => some (Go.Sx.Tr.leaf (Go.Sx.SV.bool (f65_0 k a b r g s m l)))
  | _ => none
theorem s65 : Sound Try.prog th 65 (pureC f65) := pure_auto (us := us65) (nice := nice71) nok71 20 fun args t h => by
  unfold f65 at h
  split at h
  · cases h; kernel_rfl
  · cases h
def nice65 : List (Nat × CF th.R) := (65, pureC f65) :: nice71
theorem nok65 : NiceOk Try.prog th nice65 := ⟨s65, nok71⟩
end Go.Sx.A

namespace Go.Sx.A
open Go Go.Sx Go.Proofs Go.RowKit
def us52 : List Un := [⟨59, [(2, 6)], [6]⟩]
def f52_0 (k : Int) (a : Int) (b : Int) (r : Int) (g : Int) (s : Int) (m : Int) : Prop := (k == (1 : Int)) = Bool.false → (k == (2 : Int)) = Bool.false → (k == (3 : Int)) = Bool.false → (k == (4 : Int)) = Bool.false → (k == (7 : Int)) = Bool.false → (k == (9 : Int)) = Bool.false → (k == (10 : Int)) = Bool.true → Bool.true = Bool.true → (0 : Int) ≤ b
def f52_1 (k : Int) (a : Int) (b : Int) (r : Int) (g : Int) (s : Int) (m : Int) : Bool := Go.Sx.cnd (k == (1 : Int)) (Go.Sx.cnd (Decidable.decide (m ≤ Go.IntKind.u64.wrap (Go.Sx.A.f58_1 b + (1 : Int)))) (Go.Sx.A.f60_0 m (5 : Int)) Bool.false) (Go.Sx.cnd (k == (2 : Int)) (Go.Sx.cnd (Decidable.decide (g ≤ if (63 : Int) < Go.IntKind.i64.wrap ((64 : Int) - b) then (63 : Int) else Go.IntKind.i64.wrap ((64 : Int) - b))) (Go.bits Go.BinOp.andNot Go.IntKind.u64 m (Go.Sx.A.f58_1 g) == (0 : Int)) Bool.false) (Go.Sx.cnd (k == (3 : Int)) (Go.Sx.A.f65_0 k a b r g s m (Go.Sx.A.f59_0 b)) (Go.Sx.cnd (k == (4 : Int)) (Go.Sx.cnd (Go.Sx.cnd (Go.Sx.A.f65_0 k a b r g s m (Go.IntKind.i64.wrap (g - (1 : Int)))) (Decidable.decide (g ≥ (1 : Int)) == (s != (0 : Int))) Bool.false) (Decidable.decide (g < (4 : Int))) Bool.false) (Go.Sx.cnd (k == (7 : Int)) (Decidable.decide (m < (8 : Int))) (Go.Sx.cnd (k == (9 : Int)) Bool.true (Go.Sx.cnd (k == (10 : Int)) (Decidable.decide (m ≤ Go.IntKind.u64.wrap ((1 : Int) * (2 : Int) ^ Min.min b.toNat Go.IntKind.u64.bits))) (m == (0 : Int))))))))
def f52 : List SV → Option (Tr SV)
  | [.agg [.int .i64 k, .int .u64 a, .int .i64 b, .int .i64 r, .int .i64 g, .int .i64 s, .int .u64 m]] => some (Go.Sx.Tr.need (f52_0 k a b r g s m) (Go.Sx.Tr.leaf (Go.Sx.SV.bool (f52_1 k a b r g s m))))
  | _ => none
theorem s52 : Sound Try.prog th 52 (pureC f52) := pure_auto (us := us52) (nice := nice65) nok65 20 fun args t h => by
  unfold f52 at h
  split at h
  · cases h; kernel_rfl
  · cases h
def nice52 : List (Nat × CF th.R) := (52, pureC f52) :: nice65
theorem nok52 : NiceOk Try.prog th nice52 := ⟨s52, nok65⟩
end Go.Sx.A

namespace Go.Sx.A
open Go Go.Sx Go.Proofs Go.RowKit
def us17 : List Un := [⟨59, [(2, 6)], [6]⟩]
def f17_0 (k : Int) (a : Int) (b : Int) (r : Int) (g : Int) (s : Int) (m : Int) : Prop := Go.Sx.cnd (Go.Sx.cnd (Go.Sx.cnd (Go.Sx.cnd (Go.Sx.cnd (Go.Sx.cnd (Go.Sx.cnd (Go.Sx.A.f51_0 k a b r g s m) (Decidable.decide (g ≥ (0 : Int))) Bool.false) (Go.Sx.cnd (Go.Sx.cnd (k == (2 : Int)) Bool.true (k == (4 : Int))) Bool.true (g == (0 : Int))) Bool.false) (Decidable.decide (s ≥ (0 : Int))) Bool.false) (Decidable.decide (s < (4096 : Int))) Bool.false) (Go.Sx.cnd (Go.Sx.cnd (Go.Sx.cnd (k == (3 : Int)) Bool.true (k == (4 : Int))) Bool.true (k == (5 : Int))) Bool.true (s == (0 : Int))) Bool.false) (Go.Sx.cnd (Go.Sx.cnd (Go.Sx.cnd (k == (3 : Int)) (Go.Sx.A.f49_0 r) Bool.false) Bool.true (Go.Sx.cnd (k == (9 : Int)) (Go.Sx.A.f50_0 r (3 : Int)) Bool.false)) Bool.true (r == (0 : Int))) Bool.false) Bool.true Bool.false = Bool.true → Go.Sx.A.f52_0 k a b r g s m
def f17_1 (k : Int) (a : Int) (b : Int) (r : Int) (g : Int) (s : Int) (m : Int) : Bool := Go.Sx.cnd (Go.Sx.cnd (Go.Sx.cnd (Go.Sx.cnd (Go.Sx.cnd (Go.Sx.cnd (Go.Sx.cnd (Go.Sx.A.f51_0 k a b r g s m) (Decidable.decide (g ≥ (0 : Int))) Bool.false) (Go.Sx.cnd (Go.Sx.cnd (k == (2 : Int)) Bool.true (k == (4 : Int))) Bool.true (g == (0 : Int))) Bool.false) (Decidable.decide (s ≥ (0 : Int))) Bool.false) (Decidable.decide (s < (4096 : Int))) Bool.false) (Go.Sx.cnd (Go.Sx.cnd (Go.Sx.cnd (k == (3 : Int)) Bool.true (k == (4 : Int))) Bool.true (k == (5 : Int))) Bool.true (s == (0 : Int))) Bool.false) (Go.Sx.cnd (Go.Sx.cnd (Go.Sx.cnd (k == (3 : Int)) (Go.Sx.A.f49_0 r) Bool.false) Bool.true (Go.Sx.cnd (k == (9 : Int)) (Go.Sx.A.f50_0 r (3 : Int)) Bool.false)) Bool.true (r == (0 : Int))) Bool.false) (Go.Sx.A.f52_1 k a b r g s m) Bool.false
theorem n17_0 (k : Int) (a : Int) (b : Int) (r : Int) (g : Int) (s : Int) (m : Int) : f17_0 k a b r g s m := by
  simp only [f17_0, f52_0, f51_0, f57_0, f57_1, cnd_eq]
  grind (splits := 40)
def f17 : List SV → Option (Tr SV)
  | [.agg [.int .i64 k, .int .u64 a, .int .i64 b, .int .i64 r, .int .i64 g, .int .i64 s, .int .u64 m]] => some (Go.Sx.Tr.leaf (Go.Sx.SV.bool (f17_1 k a b r g s m)))
  | _ => none
theorem s17 : Sound Try.prog th 17 (pureC f17) := pure_auto2 (us := us17) (nice := nice52) nok52 20 fun args t h => by
  unfold f17 at h
  split at h
  · rename_i k a b r g s m
    cases h
    refine ⟨(Go.Sx.Tr.need (f17_0 k a b r g s m) (Go.Sx.Tr.leaf (Go.Sx.SV.bool (f17_1 k a b r g s m)))), by kernel_rfl, fun ok => ?_, rfl⟩
    first
    | (simp only [Tr.ok, n17_0, true_and, and_true, forall_const, implies_true]; done)
    | (simp only [Tr.ok, n17_0, true_and, and_true, forall_const, implies_true]; done)
    | (simpa only [Tr.ok, n17_0, true_and, and_true, forall_const, implies_true] using ok; done)
    | (simp only [Tr.ok, n17_0, true_and, and_true, forall_const, implies_true] at ok ⊢; grind)
  · cases h
def nice17 : List (Nat × CF th.R) := (17, pureC f17) :: nice52
theorem nok17 : NiceOk Try.prog th nice17 := ⟨s17, nok52⟩
end Go.Sx.A

namespace Go.Sx.A
open Go Go.Sx Go.Proofs Go.RowKit
def us31 : List Un := [⟨59, [(2, 6)], [6]⟩]
def f31_0 (k : Int) (a : Int) (b : Int) (r : Int) (g : Int) (s : Int) (m : Int) : Int := Go.Sx.cnd (Go.Sx.cnd (!Go.Sx.A.f57_1 k b) Bool.true !Go.Sx.A.f17_1 k a b r g s m) (-1 : Int) (Go.Sx.A.f57_0 k b)
def f31 : List SV → Option (Tr SV)
  | [.agg [.int .i64 k, .int .u64 a, .int .i64 b, .int .i64 r, .int .i64 g, .int .i64 s, .int .u64 m]] => some (Go.Sx.Tr.leaf (Go.Sx.SV.int (Go.IntKind.i64) (f31_0 k a b r g s m)))
  | _ => none
theorem s31 : Sound Try.prog th 31 (pureC f31) := pure_auto (us := us31) (nice := nice17) nok17 20 fun args t h => by
  unfold f31 at h
  split at h
  · cases h; kernel_rfl
  · cases h
def nice31 : List (Nat × CF th.R) := (31, pureC f31) :: nice17
theorem nok31 : NiceOk Try.prog th nice31 := ⟨s31, nok17⟩
end Go.Sx.A

namespace Go.Sx.A
open Go Go.Sx Go.Proofs Go.RowKit
def us32 : List Un := [⟨59, [(2, 6)], [6]⟩]
def f32_0 (k : Int) (a : Int) (b : Int) (r : Int) (g : Int) (s : Int) (m : Int) : Int := Go.Sx.cnd (Decidable.decide (Go.Sx.A.f31_0 k a b r g s m < (0 : Int))) (0 : Int) (Go.IntKind.u64.wrap (Go.IntKind.u64.wrap (a + Go.Sx.A.f58_1 (Go.Sx.A.f31_0 k a b r g s m)) + (1 : Int)))
def f32 : List SV → Option (Tr SV)
  | [.agg [.int .i64 k, .int .u64 a, .int .i64 b, .int .i64 r, .int .i64 g, .int .i64 s, .int .u64 m]] => some (Go.Sx.Tr.leaf (Go.Sx.SV.int (Go.IntKind.u64) (f32_0 k a b r g s m)))
  | _ => none
theorem s32 : Sound Try.prog th 32 (pureC f32) := pure_auto (us := us32) (nice := nice31) nok31 20 fun args t h => by
  unfold f32 at h
  split at h
  · cases h; kernel_rfl
  · cases h
def nice32 : List (Nat × CF th.R) := (32, pureC f32) :: nice31
theorem nok32 : NiceOk Try.prog th nice32 := ⟨s32, nok31⟩
end Go.Sx.A

namespace Go.Sx.A
open Go Go.Sx Go.Proofs Go.RowKit
def us33 : List Un := [⟨59, [(2, 6)], [6]⟩]
def f33_0 (k : Int) (a : Int) (b : Int) (r : Int) (g : Int) (s : Int) (m : Int) : Prop := (!Go.Sx.A.f17_1 k a b r g s m) = Bool.false → Go.Sx.cnd (k == (2 : Int)) Bool.true (k == (10 : Int)) = Bool.true → (0 : Int) ≤ b
def f33_1 (k : Int) (a : Int) (b : Int) (r : Int) (g : Int) (s : Int) (m : Int) : Int := Go.Sx.cnd (!Go.Sx.A.f17_1 k a b r g s m) (0 : Int) (Go.Sx.cnd (Go.Sx.cnd (k == (2 : Int)) Bool.true (k == (10 : Int))) (Go.IntKind.i64.wrap ((1 : Int) * (2 : Int) ^ Min.min b.toNat Go.IntKind.i64.bits)) (Go.Sx.cnd (k == (8 : Int)) (2 : Int) (0 : Int)))
theorem n33_0 (k : Int) (a : Int) (b : Int) (r : Int) (g : Int) (s : Int) (m : Int) : f33_0 k a b r g s m := by
  simp only [f33_0, f17_0, f17_1, f51_0, f57_0, f57_1, cnd_eq]
  grind (splits := 40)
def f33 : List SV → Option (Tr SV)
  | [.agg [.int .i64 k, .int .u64 a, .int .i64 b, .int .i64 r, .int .i64 g, .int .i64 s, .int .u64 m]] => some (Go.Sx.Tr.leaf (Go.Sx.SV.int (Go.IntKind.i64) (f33_1 k a b r g s m)))
  | _ => none
theorem s33 : Sound Try.prog th 33 (pureC f33) := pure_auto2 (us := us33) (nice := nice32) nok32 20 fun args t h => by
  unfold f33 at h
  split at h
  · rename_i k a b r g s m
    cases h
    refine ⟨(Go.Sx.Tr.need (f33_0 k a b r g s m) (Go.Sx.Tr.leaf (Go.Sx.SV.int (Go.IntKind.i64) (f33_1 k a b r g s m)))), by kernel_rfl, fun ok => ?_, rfl⟩
    first
    | (simp only [Tr.ok, n33_0, true_and, and_true, forall_const, implies_true]; done)
    | (simp only [Tr.ok, n33_0, true_and, and_true, forall_const, implies_true]; done)
    | (simpa only [Tr.ok, n33_0, true_and, and_true, forall_const, implies_true] using ok; done)
    | (simp only [Tr.ok, n33_0, true_and, and_true, forall_const, implies_true] at ok ⊢; grind)
  · cases h
def nice33 : List (Nat × CF th.R) := (33, pureC f33) :: nice32
theorem nok33 : NiceOk Try.prog th nice33 := ⟨s33, nok32⟩
end Go.Sx.A

namespace Go.Sx.A
open Go Go.Sx Go.Proofs Go.RowKit
def us26 : List Un := [⟨59, [(2, 6)], [6]⟩]
def l26_0 (n : Int) (p : Int) (i : Int) (h : List (Go.Sx.HO Empty)) (d : List Nat) (w : List Nat) : Bool := Go.Sx.cnd (Decidable.decide (i < n)) Bool.false Bool.true
def l26_1 (n : Int) (p : Int) (i : Int) (h : List (Go.Sx.HO Empty)) (d : List Nat) (w : List Nat) : Bool := Decidable.decide (i < n)
def l26_2 (n : Int) (p : Int) (i : Int) (h : List (Go.Sx.HO Empty)) (d : List Nat) (w : List Nat) : Int := Go.IntKind.u64.wrap (p + p)
def l26_3 (n : Int) (p : Int) (i : Int) (h : List (Go.Sx.HO Empty)) (d : List Nat) (w : List Nat) : Int := Go.IntKind.i64.wrap (i + (1 : Int))
def l26 (n p i : Int) (h : List (HO Empty)) (d w : List Nat) : Tr (Ex × St Empty) := (Go.Sx.Tr.ite (l26_0 n p i h d w) (Go.Sx.Tr.leaf (Prod.mk (Go.Sx.Ex.exit ((0 : Nat))) (Go.Sx.St.mk (List.cons (Option.some (Go.Sx.SV.int (Go.IntKind.i64) (n))) (List.cons (Option.none) (List.cons (Option.some (Go.Sx.SV.int (Go.IntKind.u64) ((0 : Int)))) (List.cons (Option.some (Go.Sx.SV.int (Go.IntKind.u64) (p))) (List.cons (Option.some (Go.Sx.SV.int (Go.IntKind.i64) (i))) (List.cons (Option.some (Go.Sx.SV.int (Go.IntKind.i64) (i))) (List.cons (Option.some (Go.Sx.SV.int (Go.IntKind.i64) (n))) (List.cons (Option.some (Go.Sx.SV.bool (l26_1 n p i h d w))) (List.cons (Option.none) (List.cons (Option.none) (List.cons (Option.none) (List.cons (Option.none) (List.cons (Option.none) (List.cons (Option.none) (List.nil))))))))))))))) (h) (d) (List.cons ((7 : Nat)) (List.cons ((6 : Nat)) (List.cons ((5 : Nat)) (w))))))) (Go.Sx.Tr.leaf (Prod.mk (Go.Sx.Ex.normal) (Go.Sx.St.mk (List.cons (Option.some (Go.Sx.SV.int (Go.IntKind.i64) (n))) (List.cons (Option.none) (List.cons (Option.some (Go.Sx.SV.int (Go.IntKind.u64) ((0 : Int)))) (List.cons (Option.some (Go.Sx.SV.int (Go.IntKind.u64) (l26_2 n p i h d w))) (List.cons (Option.some (Go.Sx.SV.int (Go.IntKind.i64) (l26_3 n p i h d w))) (List.cons (Option.some (Go.Sx.SV.int (Go.IntKind.i64) (i))) (List.cons (Option.some (Go.Sx.SV.int (Go.IntKind.i64) (n))) (List.cons (Option.some (Go.Sx.SV.bool (l26_1 n p i h d w))) (List.cons (Option.some (Go.Sx.SV.int (Go.IntKind.i64) (i))) (List.cons (Option.some (Go.Sx.SV.int (Go.IntKind.i64) (l26_3 n p i h d w))) (List.cons (Option.some (Go.Sx.SV.int (Go.IntKind.u64) (p))) (List.cons (Option.some (Go.Sx.SV.int (Go.IntKind.u64) (p))) (List.cons (Option.some (Go.Sx.SV.int (Go.IntKind.u64) (l26_2 n p i h d w))) (List.cons (Option.none) (List.nil))))))))))))))) (h) (d) (List.cons ((4 : Nat)) (List.cons ((9 : Nat)) (List.cons ((8 : Nat)) (List.cons ((3 : Nat)) (List.cons ((12 : Nat)) (List.cons ((11 : Nat)) (List.cons ((10 : Nat)) (List.cons ((7 : Nat)) (List.cons ((6 : Nat)) (List.cons ((5 : Nat)) (w)))))))))))))))
def p26 (i : Nat) : Int := ((2 ^ i % 18446744073709551616 : Nat) : Int)
def i26 (n : Int) (h : List (HO Empty)) (d w : List Nat) (i : Nat) : St th.R :=
  ⟨[some (.int .i64 n), none, some (.int .u64 0), some (.int .u64 (p26 i)), some (.int .i64 i), none, none, none, none, none, none, none, none, none], h, d, w⟩
def o26 (n : Int) (h : List (HO Empty)) (d w : List Nat) (i : Nat) : St th.R :=
  ⟨[some (.int .i64 n), none, some (.int .u64 0), some (.int .u64 (p26 i)), none, none, none, none, none, none, none, none, none, none], h, d, [3, 4, 5, 6, 7, 8, 9, 10, 11, 12, 13] ++ w⟩
def L26 (st : St th.R) : Out th := match st with
  | ⟨[some (.int .i64 n), none, some (.int .u64 z), some (.int .u64 p), some (.int .i64 i), _, _, _, _, _, _, _, _, _], h, d, w⟩ =>
    some (.need (z = 0 ∧ p = 1 ∧ i = 0 ∧ n ≤ 4611686018427387904) (.leaf (.exit 0, o26 n h d w n.toNat)))
  | _ => none
def H26 : Hints th := Hints.mk (fun n => match beqN n 3 with
    | true => some L26
    | false => none) (fun _ => none) (fun _ => false)
theorem L26_sound : CodeSound th Try.prog (.loop (lpAt Try.prog 26 0)) L26 := by
  intro st t h hok
  unfold L26 at h
  split at h
  · rename_i n z p i s5 s6 s7 s8 s9 s10 s11 s12 s13 h d w
    cases h
    obtain ⟨⟨rfl, rfl, rfl, hn⟩, _⟩ := hok
    refine ⟨⟨Nat.le_refl _, rfl, fun _ x => x, fun _ x => List.mem_append_right _ x, fun _ _ _ => rfl, ?_⟩, fun K w0 ρ a wd Q hr hQ => ?_⟩
    · intro m hm
      simp only [Tr.get, o26, List.mem_append, List.mem_cons, not_or] at hm ⊢
      match m, hm with
      | 0, _ => rfl
      | 1, _ => rfl
      | 2, _ => rfl
      | 3, hm => exact absurd rfl hm.1.1
      | 4, hm => exact absurd rfl hm.1.2.1
      | 5, hm => exact absurd rfl hm.1.2.2.1
      | 6, hm => exact absurd rfl hm.1.2.2.2.1
      | 7, hm => exact absurd rfl hm.1.2.2.2.2.1
      | 8, hm => exact absurd rfl hm.1.2.2.2.2.2.1
      | 9, hm => exact absurd rfl hm.1.2.2.2.2.2.2.1
      | 10, hm => exact absurd rfl hm.1.2.2.2.2.2.2.2.1
      | 11, hm => exact absurd rfl hm.1.2.2.2.2.2.2.2.2.1
      | 12, hm => exact absurd rfl hm.1.2.2.2.2.2.2.2.2.2.1
      | 13, hm => exact absurd rfl hm.1.2.2.2.2.2.2.2.2.2.2.1
      | m + 14, _ => rfl
    · have hwk := Wk.blank (T := th) (s := ⟨[some (.int .i64 n), none, some (.int .u64 0), some (.int .u64 1), some (.int .i64 0), s5, s6, s7, s8, s9, s10, s11, s12, s13], h, d, w⟩) (s' := i26 n h d w 0) [5, 6, 7, 8, 9, 10, 11, 12, 13] rfl rfl
      obtain ⟨ρ1, hp1, hr1⟩ := hwk K w0 ρ a wd hr
      refine loop_rule (evCode_sound (tbl := fun _ => none) (fun _ _ e => by cases e) (noLoops th (fun _ => none) (fun _ => false)) _ (LoopsOk_none (fun _ => rfl) _)) (N := n.toNat) (I := i26 n h d w) (F := o26 n h d w n.toNat) (ex := .exit 0)
        (fun e => by cases e) ?_ ?_ hr1 (fun ρ' a' w' hp hr' => hQ ρ' a' w' (hp1.trans hp) hr')
      · intro i hi
        have hc : decide ((i : Int) < n) = true := by simp; omega
        refine ⟨l26 n (p26 i) i h d w, by kernel_rfl, ?_, ?_, ?_⟩
        · simp only [l26, l26_0, hc, cnd, Tr.ok]; exact ⟨(fun e => by cases e), fun _ => trivial⟩
        · simp only [l26, l26_0, hc, cnd, Tr.get]
        · have e1 : l26_2 n (p26 i) i h d w = p26 (i + 1) := by
            simp only [l26_2, p26, wrap_u64]
            have : 2 ^ (i + 1) = 2 ^ i + 2 ^ i := by rw [Nat.pow_succ]; omega
            rw [this]
            generalize 2 ^ i = q
            omega
          have e2 : l26_3 n (p26 i) i h d w = ((i + 1 : Nat) : Int) := by
            simp only [l26_3]
            rw [wrap_i64 (by omega) (by omega)]
            omega
          refine Wk.blank [5, 6, 7, 8, 9, 10, 11, 12, 13] ?_ ?_
          · simp only [l26, l26_0, hc, cnd, Tr.get, e1, e2]; rfl
          · simp only [l26, l26_0, hc, cnd, Tr.get]; rfl
      · have hc : decide (((n.toNat : Nat) : Int) < n) = false := by simp; omega
        refine ⟨l26 n (p26 n.toNat) n.toNat h d w, by kernel_rfl, ?_, ?_, ?_⟩
        · simp only [l26, l26_0, hc, cnd, Tr.ok]; exact ⟨fun _ => trivial, (fun e => by cases e)⟩
        · simp only [l26, l26_0, hc, cnd, Tr.get]
        · refine Wk.blank [4, 5, 6, 7, 8, 9, 10, 11, 12, 13] ?_ ?_
          · simp only [l26, l26_0, hc, cnd, Tr.get]; rfl
          · simp only [l26, l26_0, hc, cnd, Tr.get]; rfl
  · cases h
def f26 : List SV → Option (Tr SV)
  | [.int .i64 n] => some (.need (n ≤ 4611686018427387904) (.leaf (.int .u64 (p26 n.toNat))))
  | _ => none
theorem s26 : Sound Try.prog th 26 (pureC f26) := pure_fn (tbl := fun _ => none) (H := H26) (fun _ _ e => by cases e)
  (LoopsOk_at (m := 1) (by kernel_rfl) (fun j hj L hL => by
    have : j = 0 := by omega
    subst this
    have e : H26.loops (firstReg (lpAt Try.prog 26 0)) = some L26 := by kernel_rfl
    rw [e] at hL
    cases hL
    exact L26_sound)) fun args t h hok => by
  unfold f26 at h
  split at h
  · rename_i n
    cases h
    exact ⟨.need ((0 : Int) = 0 ∧ (1 : Int) = 1 ∧ (0 : Int) = 0 ∧ n ≤ 4611686018427387904) (.leaf (.int .u64 (p26 n.toNat), [], [])), by kernel_rfl, ⟨⟨rfl, rfl, rfl, hok.1⟩, trivial⟩, rfl⟩
  · cases h
theorem p26_eq {n : Nat} (h : n ≤ 63) : p26 n = ((2 ^ n : Nat) : Int) := by
  have : 2 ^ n ≤ 2 ^ 63 := Nat.pow_le_pow_right (by omega) h
  unfold p26
  rw [Nat.mod_eq_of_lt (by omega)]
theorem p26_pos {n : Nat} (h : n ≤ 63) : 0 < p26 n := by
  have : 0 < 2 ^ n := Nat.pow_pos (by omega)
  rw [p26_eq h]
  exact Int.ofNat_lt.2 this
theorem p26_ne {n : Int} (h : n ≤ 63) : p26 n.toNat ≠ 0 := by
  have := p26_pos (n := n.toNat) (by omega)
  omega
def nice26 : List (Nat × CF th.R) := (26, pureC f26) :: nice33
theorem nok26 : NiceOk Try.prog th nice26 := ⟨s26, nok33⟩
end Go.Sx.A

namespace Go.Sx.A
open Go Go.Sx Go.Proofs Go.RowKit
def us30 : List Un := [⟨59, [(2, 6)], [6]⟩]
def f30_0 (k : Int) (b : Int) : Int := Go.Sx.cnd (Go.Sx.cnd (Go.Sx.cnd (k == (0 : Int)) Bool.true (k == (6 : Int))) (b == (0 : Int)) Bool.false) (-1 : Int) (Go.Sx.cnd (Go.Sx.cnd (k == (0 : Int)) Bool.true (k == (6 : Int))) (-2 : Int) (Go.Sx.cnd (Go.Sx.cnd (Go.Sx.cnd (k == (1 : Int)) (Decidable.decide (b ≥ (5 : Int))) Bool.false) (Decidable.decide (b ≤ (32 : Int))) Bool.false) b (Go.Sx.cnd (Go.Sx.cnd (Go.Sx.cnd (Go.Sx.cnd (k == (2 : Int)) Bool.true (k == (10 : Int))) (Decidable.decide (b ≥ (1 : Int))) Bool.false) (Decidable.decide (b ≤ (12 : Int))) Bool.false) (Go.IntKind.i64.wrap (b + (5 : Int))) (Go.Sx.cnd (Go.Sx.cnd (k == (3 : Int)) (Go.Sx.cnd (Go.Sx.cnd (b == (12 : Int)) Bool.true (b == (21 : Int))) Bool.true (b == (30 : Int))) Bool.false) b (Go.Sx.cnd (Go.Sx.cnd (Go.Sx.cnd (Go.Sx.cnd (k == (4 : Int)) Bool.true (k == (5 : Int))) Bool.true (k == (7 : Int))) (b == (12 : Int)) Bool.false) (12 : Int) (Go.Sx.cnd (Go.Sx.cnd (Go.Sx.cnd (k == (8 : Int)) (b == (7 : Int)) Bool.false) Bool.true (Go.Sx.cnd (k == (9 : Int)) (b == (5 : Int)) Bool.false)) b (-2 : Int)))))))
def f30 : List SV → Option (Tr SV)
  | [.int .i64 k, .int .i64 b] => some (Go.Sx.Tr.leaf (Go.Sx.SV.int (Go.IntKind.i64) (f30_0 k b)))
  | _ => none
theorem s30 : Sound Try.prog th 30 (pureC f30) := pure_auto (us := us30) (nice := nice26) nok26 20 fun args t h => by
  unfold f30 at h
  split at h
  · cases h; kernel_rfl
  · cases h
theorem b30 (k b : Int) : f30_0 k b ≤ 63 := by
  simp only [f30_0, cnd_eq]
  grind (splits := 40) [wrap_i64]
def nice30 : List (Nat × CF th.R) := (30, pureC f30) :: nice26
theorem nok30 : NiceOk Try.prog th nice30 := ⟨s30, nok26⟩
end Go.Sx.A

namespace Go.Sx.A
open Go Go.Sx Go.Proofs Go.RowKit
def us47 : List Un := [⟨59, [(2, 6)], [6]⟩]
def f47_0 (r : Int) : Bool := Go.Sx.cnd (Decidable.decide (r ≥ (0 : Int))) (Decidable.decide (r ≤ (7 : Int))) Bool.false
def f47 : List SV → Option (Tr SV)
  | [.int .i64 r] => some (Go.Sx.Tr.leaf (Go.Sx.SV.bool (f47_0 r)))
  | _ => none
theorem s47 : Sound Try.prog th 47 (pureC f47) := pure_auto (us := us47) (nice := nice30) nok30 20 fun args t h => by
  unfold f47 at h
  split at h
  · cases h; kernel_rfl
  · cases h
def nice47 : List (Nat × CF th.R) := (47, pureC f47) :: nice30
theorem nok47 : NiceOk Try.prog th nice47 := ⟨s47, nok30⟩
end Go.Sx.A

namespace Go.Sx.A
open Go Go.Sx Go.Proofs Go.RowKit
def us66 : List Un := [⟨59, [(2, 6)], [6]⟩]
def halves (w : Int) : Nat → Int
  | 0 => w
  | n + 1 => IntKind.u64.wrap ((halves w n).tdiv 2)
def bitI (w : Int) (j : Nat) : Bool := (halves w j).tmod 2 == 1
def fill66 (w : Int) : Nat → Nat → Bool
  | 0 => fun _ => false
  | n + 1 => fun j => cnd (Nat.beq (cnt n).toNat j) (bitI w n) (fill66 w n j)
noncomputable def E66 : St th.R → Out th := evCode th Try.prog (fun _ => none) (noLoops th (fun _ => none) (fun _ => false)) (lpAt Try.prog 66 0)
def i66 (w : Int) (z : HO th.R) (d ws : List Nat) (i : Nat) : St th.R :=
  ⟨[some (.int .u64 (halves w i)), none, some (.ptr 0 0), some (.ptr 1 0), some (.int .i64 (cnt i)), none, none, none, none, none, none, none, none, none, none, none, none], [z, .cells 104 (bl 64 (fill66 w i))], d, ws⟩
def o66 (w : Int) (z : HO th.R) (d ws : List Nat) : St th.R :=
  ⟨[none, none, some (.ptr 0 0), some (.ptr 1 0), none, none, none, none, none, none, none, none, none, none, none, none, none], [z, .cells 104 (bl 64 (bitI w))], List.range 2 ++ d, List.range 17 ++ ws⟩
def L66 (st : St th.R) : Out th := match st with
  | ⟨[some (.int .u64 w), none, some (.ptr 0 0), some (.ptr 1 0), some (.int .i64 i), none, none, none, none, none, none, none, none, none, none, none, none], [z, .cells 104 l], d, ws⟩ =>
    some (.need (i = 0 ∧ l = bl 64 (fill66 w 0)) (.leaf (.exit 0, o66 w z d ws)))
  | _ => none
theorem fill66_eq (w : Int) : ∀ n j, n ≤ 64 → fill66 w n j = if j < n then bitI w j else false
  | 0, j, _ => by simp [fill66]
  | n + 1, j, h => by
    show cnd (Nat.beq (cnt n).toNat j) (bitI w n) (fill66 w n j) = _
    rw [fill66_eq w n j (by omega), cnt_eq (by omega)]
    by_cases e : n = j
    · subst e; simp [cnd]
    · have : Nat.beq ((n : Int).toNat) j = false := by
        cases hb : Nat.beq ((n : Int).toNat) j with
        | false => rfl
        | true => have := Nat.eq_of_beq_eq_true hb; simp at this; exact absurd this e
      rw [this]
      simp only [cnd]
      by_cases h1 : j < n
      · have : j < n + 1 := by omega
        simp [h1, this]
      · have : ¬ j < n + 1 := by omega
        simp [h1, this]
theorem L66_sound : CodeSound th Try.prog (.loop (lpAt Try.prog 66 0)) L66 := by
  intro st t h hok
  unfold L66 at h
  split at h
  · rename_i w i z l d ws
    cases h
    obtain ⟨⟨rfl, rfl⟩, _⟩ := hok
    refine ⟨grow_mk (Nat.le_refl _) rfl rfl rfl, fun K w0 ρ a wd Q hr hQ => ?_⟩
    refine loop_rule (show CodeSound th Try.prog (lpAt Try.prog 66 0) E66 from plain_body (tbl := fun _ => none) (fun _ _ e => by cases e) _) (N := 64) (I := i66 w z d ws) (F := o66 w z d ws) (ex := .exit 0) (fun e => by cases e) ?_ ?_ hr hQ
    · intro i hi
      have hc := cnt_eq (n := i) (by omega)
      refine goes_on (c := cnd (decide (cnt i < 64)) false true) [5, 6, 7, 8, 9, 10, 11, 12, 13, 14, 15] (by kernel_rfl) ?_ ?_ (by kernel_rfl) (by kernel_rfl) (by kernel_rfl)
      · have : decide (cnt i < 64) = true := by rw [hc]; simp; omega
        rw [this]; rfl
      · have e : (rt (ob (E66 (i66 w z d ws i)))).ok = ((2 : Int) ≠ 0 ∧ (0 ≤ cnt i ∧ cnt i < 64) ∧ (cnt i).toNat < (bl 64 (fill66 w i)).length ∧ (2 : Int) ≠ 0 ∧ True) := by kernel_rfl
        rw [e, hc]
        simp [bl]
        omega
    · have hf : bl 64 (fill66 w 64) = bl 64 (bitI w) := bl_congr fun j hj => by rw [fill66_eq w 64 j (by omega), if_pos hj]
      refine goes_out (c := cnd (decide (cnt 64 < 64)) false true) [0, 4, 5, 6] (by kernel_rfl) ?_ ?_ (by kernel_rfl) (by kernel_rfl) ?_
      · rw [cnt_eq (by omega)]; rfl
      · show (lf (ob (E66 (i66 w z d ws 64)))).ok
        have e : (lf (ob (E66 (i66 w z d ws 64)))).ok = True := by kernel_rfl
        rw [e]; trivial
      · have e : (lf (ob (E66 (i66 w z d ws 64)))).get.2.heap = [z, .cells 104 (bl 64 (fill66 w 64))] := by kernel_rfl
        exact (congrArg (fun x => [z, HO.cells 104 x]) hf.symm).trans e.symm
  · cases h
def f66 : List SV → Option (Tr SV)
  | [.int .u64 w] => some (.leaf (.agg (bl 64 (bitI w))))
  | _ => none
theorem s66 : Sound Try.prog th 66 (pureC f66) := pure_fn (tbl := fun _ => none) (H := oneLoop 3 L66) (fun _ _ e => by cases e)
  (oneLoop_ok (by kernel_rfl) (by kernel_rfl) L66_sound) fun args t h hok => by
  unfold f66 at h
  split at h
  · rename_i w
    cases h
    exact ⟨.need ((0 : Int) = 0 ∧ bl 64 (fill66 w 0) = bl 64 (fill66 w 0)) (.leaf (.agg (bl 64 (bitI w)), [], [])), by kernel_rfl, ⟨⟨rfl, rfl⟩, trivial⟩, rfl⟩
  · cases h
def nice66 : List (Nat × CF th.R) := (66, pureC f66) :: nice47
theorem nok66 : NiceOk Try.prog th nice66 := ⟨s66, nok47⟩
end Go.Sx.A

namespace Go.Sx.A
open Go Go.Sx Go.Proofs Go.RowKit
def us67 : List Un := [⟨59, [(2, 6)], [6]⟩]
def cd67 : Nat → Int
  | 0 => 63
  | n + 1 => IntKind.i64.wrap (cd67 n - 1)
def sel67 (f : Nat → Bool) (n : Nat) : Bool := ((List.range 64).map f).getD n false
def word67 (f : Nat → Bool) : Nat → Int
  | 0 => 0
  | n + 1 => cnd (sel67 f (cd67 n).toNat) (IntKind.u64.wrap (IntKind.u64.wrap (word67 f n * 2) + 1)) (IntKind.u64.wrap (word67 f n * 2))
noncomputable def E67 : St th.R → Out th := evCode th Try.prog (fun _ => none) (noLoops th (fun _ => none) (fun _ => false)) (lpAt Try.prog 67 0)
def i67 (f : Nat → Bool) (a : SV) (d ws : List Nat) (i : Nat) : St th.R :=
  ⟨[some a, some (.ptr 0 0), some (.int .u64 0), some (.int .u64 (word67 f i)), some (.int .i64 (cd67 i)), none, none, none, none, none, none, none, none, none, none, none, none], [.cells 104 (bl 64 f)], d, ws⟩
def o67 (f : Nat → Bool) (d ws : List Nat) : St th.R :=
  ⟨[none, none, none, some (.int .u64 (word67 f 64)), none, none, none, none, none, none, none, none, none, none, none, none, none], [.cells 104 (bl 64 f)], List.range 1 ++ d, List.range 17 ++ ws⟩
def fOf (l : List SV) : Nat → Bool := fun j => (match boolsOf l with
  | some bs => bs
  | none => []).getD j false
def L67 (st : St th.R) : Out th := match st with
  | ⟨[some a, some (.ptr 0 0), some (.int .u64 z), some (.int .u64 p), some (.int .i64 i), none, none, none, none, none, none, none, none, none, none, none, none], [.cells 104 l], d, ws⟩ =>
    some (.need (z = 0 ∧ p = 0 ∧ i = 63 ∧ l = bl 64 (fOf l)) (.leaf (.exit 0, o67 (fOf l) d ws)))
  | _ => none
theorem cd67_eq : ∀ {n : Nat}, n ≤ 64 → cd67 n = 63 - n
  | 0, _ => rfl
  | n + 1, h => by
    rw [cd67, cd67_eq (by omega), wrap_i64 (by omega) (by omega)]
    omega
theorem L67_sound : CodeSound th Try.prog (.loop (lpAt Try.prog 67 0)) L67 := by
  intro st t h hok
  unfold L67 at h
  split at h
  · rename_i a z p i l d ws
    cases h
    obtain ⟨⟨rfl, rfl, rfl, hl⟩, _⟩ := hok
    refine ⟨grow_mk (Nat.le_of_eq (by kernel_rfl)) (by kernel_rfl) (by kernel_rfl) (by kernel_rfl), fun K w0 ρ a' wd Q hr hQ => ?_⟩
    generalize fOf l = f at hl hQ
    subst hl
    refine loop_rule (show CodeSound th Try.prog (lpAt Try.prog 67 0) E67 from plain_body (tbl := fun _ => none) (fun _ _ e => by cases e) _) (N := 64) (I := i67 f a d ws) (F := o67 f d ws) (ex := .exit 0) (fun e => by cases e) ?_ ?_ hr hQ
    · intro i hi
      have hc := cd67_eq (n := i) (by omega)
      refine goes_on (c := cnd (decide (cd67 i ≥ 0)) false true) [5, 6, 7, 8, 9, 10, 11, 12, 13, 14, 15] (by kernel_rfl) ?_ ?_ (by kernel_rfl) (by kernel_rfl) (by kernel_rfl)
      · have : decide (cd67 i ≥ 0) = true := by rw [hc]; simp; omega
        rw [this]; rfl
      · have e : (rt (ob (E67 (i67 f a d ws i)))).ok = ((0 ≤ cd67 i ∧ cd67 i < 64) ∧ (cd67 i).toNat < (List.drop 0 (bl 64 f)).length ∧ True) := by kernel_rfl
        rw [e, hc]
        simp [bl]
        omega
    · refine goes_out (c := cnd (decide (cd67 64 ≥ 0)) false true) [0, 1, 2, 4, 5, 6] (by kernel_rfl) ?_ ?_ (by kernel_rfl) (by kernel_rfl) (by kernel_rfl)
      · rw [cd67_eq (by omega)]; rfl
      · have e : (lf (ob (E67 (i67 f a d ws 64)))).ok = True := by kernel_rfl
        rw [e]; trivial
  · cases h
def wordI (f : Nat → Bool) : Int := word67 f 64
def f67 : List SV → Option (Tr SV)
  | [.agg l] => match boolsOf l with
    | some bs => match Nat.decEq bs.length 64 with
      | .isTrue _ => some (.leaf (.int .u64 (wordI (fun j => bs.getD j false))))
      | .isFalse _ => none
    | none => none
  | _ => none
theorem fOf_bl (f : Nat → Bool) : bl 64 (fOf (bl 64 f)) = bl 64 f := by
  have : boolsOf (bl 64 f) = some ((List.range 64).map f) := by kernel_rfl
  unfold fOf
  rw [this]
  exact bl_congr fun j hj => by simp [List.getD_eq_getElem?_getD, hj]
theorem s67 : Sound Try.prog th 67 (pureC f67) := pure_fn (tbl := fun _ => none) (H := oneLoop 3 L67) (fun _ _ e => by cases e)
  (oneLoop_ok (by kernel_rfl) (by kernel_rfl) L67_sound) fun args t h hok => by
  unfold f67 at h
  split at h
  · rename_i l
    split at h
    · rename_i bs hbs
      split at h
      · rename_i hlen _
        cases h
        have e1 := boolsOf_eq hbs
        rw [bl_of hlen] at e1
        generalize (fun j => bs.getD j false) = f at e1 ⊢
        subst e1
        refine ⟨.need ((0 : Int) = 0 ∧ (0 : Int) = 0 ∧ (63 : Int) = 63 ∧ bl 64 f = bl 64 (fOf (bl 64 f))) (.leaf (.int .u64 (word67 (fOf (bl 64 f)) 64), [], [])), by kernel_rfl, ⟨⟨rfl, rfl, rfl, (fOf_bl f).symm⟩, trivial⟩, ?_⟩
        have : word67 (fOf (bl 64 f)) 64 = word67 f 64 := by
          have hs : ∀ n, sel67 (fOf (bl 64 f)) n = sel67 f n := by
            intro n
            have : (List.range 64).map (fOf (bl 64 f)) = (List.range 64).map f := by kernel_rfl
            unfold sel67
            rw [this]
          have : ∀ n, word67 (fOf (bl 64 f)) n = word67 f n := by
            intro n
            induction n with
            | zero => rfl
            | succ n ih => simp only [word67, ih, hs]
          exact this 64
        simp only [Tr.get, wordI, this]
      · cases h
    · cases h
  · cases h
theorem word67_congr {f g : Nat → Bool} (h : ∀ j, j < 64 → f j = g j) (n : Nat) : word67 f n = word67 g n := by
  have hs : ∀ n, sel67 f n = sel67 g n := by
    intro n
    unfold sel67
    rw [List.map_congr_left fun j hj => h j (List.mem_range.1 hj)]
  induction n with
  | zero => rfl
  | succ n ih => simp only [word67, ih, hs]
theorem wordI_congr {f g : Nat → Bool} (h : ∀ j, j < 64 → f j = g j) : wordI f = wordI g := by
  unfold wordI
  exact word67_congr h 64
def nice67 : List (Nat × CF th.R) := (67, pureC f67) :: nice66
theorem nok67 : NiceOk Try.prog th nice67 := ⟨s67, nok66⟩
end Go.Sx.A

namespace Go.Sx.A
open Go Go.Sx Go.Proofs Go.RowKit
def us72 : List Un := [⟨59, [(2, 6)], [6]⟩]
def fill72 (f : Nat → Bool) : Nat → Nat → Bool
  | 0 => f
  | n + 1 => fun j => cnd (Nat.beq (cnt n).toNat j) false (fill72 f n j)
def down72 (f : Nat → Bool) (n : Int) (j : Nat) : Bool := if j < min n.toNat 64 then false else f j
noncomputable def E72 : St th.R → Out th := evCode th Try.prog (fun _ => none) (noLoops th (fun _ => none) (fun _ => false)) (lpAt Try.prog 72 0)
def i72 (w n : Int) (f : Nat → Bool) (d ws : List Nat) (i : Nat) : St th.R :=
  ⟨[some (.int .u64 w), some (.int .i64 n), none, none, some (.int .u64 0), some (.ptr 0 0), some (.int .i64 (cnt i)), none, none, none, none, none, none, none, none, none, none, none, none, none, none, none], [.cells 104 (bl 64 (fill72 f i))], d, ws⟩
def o72 (n : Int) (f : Nat → Bool) (d ws : List Nat) : St th.R :=
  ⟨[none, none, none, none, none, some (.ptr 0 0), none, none, none, none, none, none, none, none, none, none, none, none, none, none, none, none], [.cells 104 (bl 64 (down72 f n))], List.range 1 ++ d, List.range 22 ++ ws⟩
def fOf72 (l : List SV) : Nat → Bool := fun j => (match boolsOf l with
  | some bs => bs
  | none => []).getD j false
def L72 (st : St th.R) : Out th := match st with
  | ⟨[some (.int .u64 w), some (.int .i64 n), none, none, some (.int .u64 z), some (.ptr 0 0), some (.int .i64 i), t7, t8, none, none, none, none, none, none, none, none, none, none, none, none, none], [.cells 104 l], d, ws⟩ =>
    some (.need (z = 0 ∧ i = 0 ∧ l = bl 64 (fOf72 l)) (.leaf (.exit 0, o72 n (fOf72 l) d ws)))
  | _ => none
theorem fill72_eq (f : Nat → Bool) : ∀ n j, n ≤ 64 → fill72 f n j = if j < n then false else f j
  | 0, j, _ => by simp [fill72]
  | n + 1, j, h => by
    show cnd (Nat.beq (cnt n).toNat j) false (fill72 f n j) = _
    rw [fill72_eq f n j (by omega), cnt_eq (by omega)]
    by_cases e : n = j
    · subst e; simp [cnd]
    · have : Nat.beq ((n : Int).toNat) j = false := by
        cases hb : Nat.beq ((n : Int).toNat) j with
        | false => rfl
        | true => have := Nat.eq_of_beq_eq_true hb; simp at this; exact absurd this e
      rw [this]
      simp only [cnd]
      by_cases h1 : j < n
      · have : j < n + 1 := by omega
        simp [h1, this]
      · have : ¬ j < n + 1 := by omega
        simp [h1, this]
theorem L72_sound : CodeSound th Try.prog (.loop (lpAt Try.prog 72 0)) L72 := by
  intro st t h hok
  unfold L72 at h
  split at h
  · rename_i w n z i t7 t8 l d ws
    cases h
    obtain ⟨⟨rfl, rfl, hl⟩, _⟩ := hok
    refine ⟨grow_mk (Nat.le_of_eq (by kernel_rfl)) (by kernel_rfl) (by kernel_rfl) (by kernel_rfl), fun K w0 ρ a' wd Q hr hQ => ?_⟩
    generalize fOf72 l = f at hl hQ
    subst hl
    obtain ⟨ρ1, hp1, hr1⟩ := Wk.blank (T := th) (s := ⟨[some (.int .u64 w), some (.int .i64 n), none, none, some (.int .u64 0), some (.ptr 0 0), some (.int .i64 0), t7, t8, none, none, none, none, none, none, none, none, none, none, none, none, none], [.cells 104 (bl 64 f)], d, ws⟩) (s' := i72 w n f d ws 0) [7, 8] (by kernel_rfl) (by kernel_rfl) K w0 ρ a' wd hr
    refine loop_rule (show CodeSound th Try.prog (lpAt Try.prog 72 0) E72 from plain_body (tbl := fun _ => none) (fun _ _ e => by cases e) _) (N := min n.toNat 64) (I := i72 w n f d ws) (F := o72 n f d ws) (ex := .exit 0) (fun e => by cases e) ?_ ?_ hr1 (fun ρ' a w' hp hr' => hQ ρ' a w' (hp1.trans hp) hr')
    · intro i hi
      have hc := cnt_eq (n := i) (by omega)
      refine goes_on (c := cnd (cnd (decide (cnt i < n)) (decide (cnt i < 64)) false) false true) [9, 10, 11, 12, 13, 14, 15, 16, 17, 18, 19] (by kernel_rfl) ?_ ?_ (by kernel_rfl) (by kernel_rfl) (by kernel_rfl)
      · have h1 : decide (cnt i < n) = true := by rw [hc]; simp; omega
        have h2 : decide (cnt i < 64) = true := by rw [hc]; simp; omega
        rw [h1, h2]; rfl
      · have e : (rt (ob (E72 (i72 w n f d ws i)))).ok = ((0 ≤ cnt i ∧ cnt i < 64) ∧ (cnt i).toNat < (bl 64 (fill72 f i)).length ∧ True) := by kernel_rfl
        rw [e, hc]
        simp [bl]
        omega
    · generalize hN : min n.toNat 64 = N
      have hc := cnt_eq (n := N) (by omega)
      have hf : bl 64 (fill72 f N) = bl 64 (down72 f n) := bl_congr fun j hj => by rw [fill72_eq f N j (by omega)]; unfold down72; rw [hN]
      refine goes_out (c := cnd (cnd (decide (cnt N < n)) (decide (cnt N < 64)) false) false true) [0, 1, 4, 6, 9, 10, 11, 12, 13, 14, 15] (by kernel_rfl) ?_ ?_ (by kernel_rfl) (by kernel_rfl) ?_
      · rw [hc]
        by_cases h1 : (N : Int) < n
        · have h2 : ¬ (N : Int) < 64 := by omega
          simp [h1, h2, cnd]
        · simp [h1, cnd]
      · have e : (lf (ob (E72 (i72 w n f d ws N)))).ok = True := by kernel_rfl
        rw [e]; trivial
      · have e : (lf (ob (E72 (i72 w n f d ws N)))).get.2.heap = [.cells 104 (bl 64 (fill72 f N))] := by kernel_rfl
        exact (congrArg (fun x => [HO.cells 104 x]) hf.symm).trans e.symm
  · cases h
def downI (w n : Int) : Int := wordI (down72 (bitI w) n)
def f72 : List SV → Option (Tr SV)
  | [.int .u64 w, .int .i64 n] => some (.leaf (.int .u64 (downI w n)))
  | _ => none
theorem fOf72_bl {f : Nat → Bool} {j : Nat} (hj : j < 64) : fOf72 (bl 64 f) j = f j := by
  have : boolsOf (bl 64 f) = some ((List.range 64).map f) := by kernel_rfl
  unfold fOf72
  rw [this]
  simp [List.getD_eq_getElem?_getD, hj]
theorem s72 : Sound Try.prog th 72 (pureC f72) := pure_fn (tbl := auto th Try.prog nice67 us72 20) (H := oneLoop 3 L72) (auto_sound nok67 20)
  (oneLoop_ok (by kernel_rfl) (by kernel_rfl) L72_sound) fun args t h hok => by
  unfold f72 at h
  split at h
  · rename_i w n
    cases h
    refine ⟨.need ((0 : Int) = 0 ∧ (0 : Int) = 0 ∧ bl 64 (bitI w) = bl 64 (fOf72 (bl 64 (bitI w)))) (.leaf (.int .u64 (wordI (fun j => ((List.range 64).map (down72 (fOf72 (bl 64 (bitI w))) n)).getD j false)), [], [])), by kernel_rfl, ⟨⟨rfl, rfl, ?_⟩, trivial⟩, ?_⟩
    · exact bl_congr fun j hj => (fOf72_bl hj).symm
    · have : wordI (fun j => ((List.range 64).map (down72 (fOf72 (bl 64 (bitI w))) n)).getD j false) = downI w n := by
        unfold downI
        refine wordI_congr fun j hj => ?_
        simp only [List.getD_eq_getElem?_getD, List.getElem?_map, List.getElem?_range hj, Option.map_some, Option.getD_some]
        unfold down72
        rw [fOf72_bl hj]
      exact congrArg (fun x => (SV.int .u64 x, ([] : List (HO th.R)), ([] : List Nat))) this
  · cases h
def nice72 : List (Nat × CF th.R) := (72, pureC f72) :: nice67
theorem nok72 : NiceOk Try.prog th nice72 := ⟨s72, nok67⟩
end Go.Sx.A

namespace Go.Sx.A
open Go Go.Sx Go.Proofs Go.RowKit
def us73 : List Un := [⟨59, [(2, 6)], [6]⟩]
def f73_0 (l : Int) : Prop := (0 : Int) ≤ l ∧ l < (4 : Int)
def f73_1 (l : Int) : Prop := l.toNat < (4 : Nat)
def f73_2 (l : Int) : Int := [(39 : Int), (30 : Int), (21 : Int), (12 : Int)].getD l.toNat (0 : Int)
def f73 : List SV → Option (Tr SV)
  | [.int .i64 l] => some (.need (0 ≤ l ∧ l < 4) (.leaf (.int .i64 (f73_2 l))))
  | _ => none
theorem s73 : Sound Try.prog th 73 (pureC f73) := pure_auto2 (us := us73) (nice := nice72) nok72 20 fun args t h => by
  unfold f73 at h
  split at h
  · rename_i l
    cases h
    refine ⟨(Go.Sx.Tr.need (f73_0 l) (Go.Sx.Tr.need (f73_1 l) (Go.Sx.Tr.leaf (Go.Sx.SV.int (Go.IntKind.i64) (f73_2 l))))), by kernel_rfl, fun ok => ?_, by kernel_rfl⟩
    first
    | (simp only [Tr.ok, true_and, and_true, forall_const, implies_true]; done)
    | (simp only [Tr.ok, true_and, and_true, forall_const, implies_true]; done)
    | (simpa only [Tr.ok, true_and, and_true, forall_const, implies_true] using ok; done)
    | (simp only [Tr.ok, f73_0, f73_1, true_and, and_true, forall_const, implies_true] at ok ⊢; grind)
  · cases h
def nice73 : List (Nat × CF th.R) := (73, pureC f73) :: nice72
theorem nok73 : NiceOk Try.prog th nice73 := ⟨s73, nok72⟩
end Go.Sx.A

namespace Go.Sx.A
open Go Go.Sx Go.Proofs Go.RowKit
def us69 : List Un := [⟨59, [(2, 6)], [6]⟩]
def f69_0 (w : Int) (l : Int) : Prop := (281474976710656 : Int) ≠ (0 : Int)
def f69_1 (w : Int) (l : Int) : Prop := (0 : Int) ≤ l ∧ l < (4 : Int)
def f69_2 (w : Int) (l : Int) : Int := Go.Sx.A.downI (w.tmod (281474976710656 : Int)) (Go.Sx.A.f73_2 l)
theorem n69_0 (w : Int) (l : Int) : f69_0 w l := by
  simp only [f69_0, cnd_eq]
  grind (splits := 40)
def f69 : List SV → Option (Tr SV)
  | [.int .u64 w, .int .i64 l] => some (Go.Sx.Tr.need (f69_1 w l) (Go.Sx.Tr.leaf (Go.Sx.SV.int (Go.IntKind.u64) (f69_2 w l))))
  | _ => none
theorem s69 : Sound Try.prog th 69 (pureC f69) := pure_auto2 (us := us69) (nice := nice73) nok73 20 fun args t h => by
  unfold f69 at h
  split at h
  · rename_i w l
    cases h
    refine ⟨(Go.Sx.Tr.need (f69_0 w l) (Go.Sx.Tr.need (f69_1 w l) (Go.Sx.Tr.leaf (Go.Sx.SV.int (Go.IntKind.u64) (f69_2 w l))))), by kernel_rfl, fun ok => ?_, rfl⟩
    first
    | (simp only [Tr.ok, n69_0, true_and, and_true, forall_const, implies_true]; done)
    | (simp only [Tr.ok, n69_0, true_and, and_true, forall_const, implies_true]; done)
    | (simpa only [Tr.ok, n69_0, true_and, and_true, forall_const, implies_true] using ok; done)
    | (simp only [Tr.ok, n69_0, f69_1, true_and, and_true, forall_const, implies_true] at ok ⊢; grind)
  · cases h
def nice69 : List (Nat × CF th.R) := (69, pureC f69) :: nice73
theorem nok69 : NiceOk Try.prog th nice69 := ⟨s69, nok73⟩
end Go.Sx.A

namespace Go.Sx.A
open Go Go.Sx Go.Proofs Go.RowKit
def us64 : List Un := [⟨59, [(2, 6)], [6]⟩]
def f64_0 (w : Int) (l : Int) : Prop := Go.Sx.cnd (Decidable.decide (w < (281474976710656 : Int))) Bool.true Bool.false = Bool.true → Go.Sx.A.f69_1 w l
def f64_1 (w : Int) (l : Int) : Bool := Go.Sx.cnd (Decidable.decide (w < (281474976710656 : Int))) (Go.Sx.A.f69_2 w l == w) Bool.false
def f64 : List SV → Option (Tr SV)
  | [.int .u64 w, .int .i64 l] => some (Go.Sx.Tr.need (f64_0 w l) (Go.Sx.Tr.leaf (Go.Sx.SV.bool (f64_1 w l))))
  | _ => none
theorem s64 : Sound Try.prog th 64 (pureC f64) := pure_auto (us := us64) (nice := nice69) nok69 20 fun args t h => by
  unfold f64 at h
  split at h
  · cases h; kernel_rfl
  · cases h
def nice64 : List (Nat × CF th.R) := (64, pureC f64) :: nice69
theorem nok64 : NiceOk Try.prog th nice64 := ⟨s64, nok69⟩
end Go.Sx.A

namespace Go.Sx.A
open Go Go.Sx Go.Proofs Go.RowKit
def us46 : List Un := [⟨59, [(2, 6)], [6]⟩]
def f46_0 (k : Int) (a : Int) (b : Int) (r : Int) (g : Int) (s : Int) (m : Int) : Prop := Decidable.decide (Go.Sx.A.f30_0 k b < (0 : Int)) = Bool.false → (Go.Sx.cnd (Decidable.decide (a < (4294967296 : Int))) Bool.true Bool.false = Bool.true → Go.Sx.A.f30_0 k b ≤ (4611686018427387904 : Int)) ∧ (Go.Sx.cnd (Decidable.decide (a < (4294967296 : Int))) Bool.true Bool.false = Bool.true → Go.Sx.A.p26 (Go.Sx.A.f30_0 k b).toNat ≠ (0 : Int)) ∧ (Go.Sx.cnd (Go.Sx.cnd (Decidable.decide (a < (4294967296 : Int))) (a.tmod (Go.Sx.A.p26 (Go.Sx.A.f30_0 k b).toNat) == (0 : Int)) Bool.false) Bool.true Bool.false = Bool.true → Go.Sx.A.f30_0 k b ≤ (4611686018427387904 : Int))
def f46_1 (k : Int) (a : Int) (b : Int) (r : Int) (g : Int) (s : Int) (m : Int) : Bool := Go.Sx.cnd (Decidable.decide (Go.Sx.A.f30_0 k b < (0 : Int))) (Go.Sx.cnd (Go.Sx.A.f30_0 k b == (-1 : Int)) (a == (0 : Int)) Bool.false) (Go.Sx.cnd (Go.Sx.cnd (Decidable.decide (a < (4294967296 : Int))) (a.tmod (Go.Sx.A.p26 (Go.Sx.A.f30_0 k b).toNat) == (0 : Int)) Bool.false) (Decidable.decide (Go.IntKind.u64.wrap (a + Go.Sx.A.p26 (Go.Sx.A.f30_0 k b).toNat) ≤ (4294967296 : Int))) Bool.false)
theorem n46_0 (k : Int) (a : Int) (b : Int) (r : Int) (g : Int) (s : Int) (m : Int) : f46_0 k a b r g s m := by
  simp only [f46_0, cnd_eq]
  grind (splits := 40) [b30, p26_ne]
def f46 : List SV → Option (Tr SV)
  | [.agg [.int .i64 k, .int .u64 a, .int .i64 b, .int .i64 r, .int .i64 g, .int .i64 s, .int .u64 m]] => some (Go.Sx.Tr.leaf (Go.Sx.SV.bool (f46_1 k a b r g s m)))
  | _ => none
theorem s46 : Sound Try.prog th 46 (pureC f46) := pure_auto2 (us := us46) (nice := nice64) nok64 20 fun args t h => by
  unfold f46 at h
  split at h
  · rename_i k a b r g s m
    cases h
    refine ⟨(Go.Sx.Tr.need (f46_0 k a b r g s m) (Go.Sx.Tr.leaf (Go.Sx.SV.bool (f46_1 k a b r g s m)))), by kernel_rfl, fun ok => ?_, rfl⟩
    first
    | (simp only [Tr.ok, n46_0, true_and, and_true, forall_const, implies_true]; done)
    | (simp only [Tr.ok, n46_0, true_and, and_true, forall_const, implies_true]; done)
    | (simpa only [Tr.ok, n46_0, true_and, and_true, forall_const, implies_true] using ok; done)
    | (simp only [Tr.ok, n46_0, true_and, and_true, forall_const, implies_true] at ok ⊢; grind)
  · cases h
def nice46 : List (Nat × CF th.R) := (46, pureC f46) :: nice64
theorem nok46 : NiceOk Try.prog th nice46 := ⟨s46, nok64⟩
end Go.Sx.A

namespace Go.Sx.A
open Go Go.Sx Go.Proofs Go.RowKit
def us48 : List Un := [⟨59, [(2, 6)], [6]⟩]
def f48_0 (k : Int) (a : Int) (b : Int) (r : Int) (g : Int) (s : Int) (m : Int) : Prop := (k == (1 : Int)) = Bool.true → (Bool.true = Bool.true → b ≤ (4611686018427387904 : Int)) ∧ (Go.Sx.cnd (Decidable.decide (m ≤ Go.Sx.A.p26 b.toNat)) Bool.true Bool.false = Bool.true → (32 : Int) ≠ (0 : Int))
def f48_1 (k : Int) (a : Int) (b : Int) (r : Int) (g : Int) (s : Int) (m : Int) : Prop := (k == (1 : Int)) = Bool.false → (k == (2 : Int)) = Bool.true → Go.Sx.cnd (Go.Sx.cnd (Go.Sx.cnd (Decidable.decide (g ≥ (0 : Int))) (Decidable.decide (g ≤ (63 : Int))) Bool.false) (Decidable.decide (g ≤ Go.IntKind.i64.wrap ((64 : Int) - b))) Bool.false) Bool.true Bool.false = Bool.true → g ≤ (4611686018427387904 : Int)
def f48_2 (k : Int) (a : Int) (b : Int) (r : Int) (g : Int) (s : Int) (m : Int) : Prop := (k == (1 : Int)) = Bool.false → (k == (2 : Int)) = Bool.false → Go.Sx.cnd (k == (4 : Int)) (s == (0 : Int)) Bool.false = Bool.false → (k == (4 : Int)) = Bool.true → Go.Sx.cnd (Go.Sx.cnd (Decidable.decide (g ≥ (1 : Int))) (Decidable.decide (g ≤ (3 : Int))) Bool.false) Bool.true Bool.false = Bool.true → Go.Sx.A.f64_0 m (Go.IntKind.i64.wrap (g - (1 : Int)))
def f48_3 (k : Int) (a : Int) (b : Int) (r : Int) (g : Int) (s : Int) (m : Int) : Prop := (k == (1 : Int)) = Bool.false → (k == (2 : Int)) = Bool.false → Go.Sx.cnd (k == (4 : Int)) (s == (0 : Int)) Bool.false = Bool.false → (k == (4 : Int)) = Bool.false → (g != (0 : Int)) = Bool.false → Go.Sx.cnd (k == (3 : Int)) (s != (0 : Int)) Bool.false = Bool.true → Go.Sx.A.f64_0 m (Go.Sx.cnd (b == (30 : Int)) (1 : Int) (Go.Sx.cnd (b == (21 : Int)) (2 : Int) (3 : Int)))
def f48_4 (k : Int) (a : Int) (b : Int) (r : Int) (g : Int) (s : Int) (m : Int) : Prop := (k == (1 : Int)) = Bool.false → (k == (2 : Int)) = Bool.false → Go.Sx.cnd (k == (4 : Int)) (s == (0 : Int)) Bool.false = Bool.false → (k == (4 : Int)) = Bool.false → (g != (0 : Int)) = Bool.false → Go.Sx.cnd (k == (3 : Int)) (s != (0 : Int)) Bool.false = Bool.false → (k == (7 : Int)) = Bool.false → (k == (9 : Int)) = Bool.false → (k == (10 : Int)) = Bool.true → Bool.true = Bool.true → b ≤ (4611686018427387904 : Int)
def f48_5 (k : Int) (a : Int) (b : Int) (r : Int) (g : Int) (s : Int) (m : Int) : Bool := Go.Sx.cnd (k == (1 : Int)) (Go.Sx.cnd (Go.Sx.cnd (Decidable.decide (m ≤ Go.Sx.A.p26 b.toNat)) (m.tmod (32 : Int) == (0 : Int)) Bool.false) (g == (0 : Int)) Bool.false) (Go.Sx.cnd (k == (2 : Int)) (Go.Sx.cnd (Go.Sx.cnd (Go.Sx.cnd (Decidable.decide (g ≥ (0 : Int))) (Decidable.decide (g ≤ (63 : Int))) Bool.false) (Decidable.decide (g ≤ Go.IntKind.i64.wrap ((64 : Int) - b))) Bool.false) (Decidable.decide (m < Go.Sx.A.p26 g.toNat)) Bool.false) (Go.Sx.cnd (Go.Sx.cnd (k == (4 : Int)) (s == (0 : Int)) Bool.false) (Go.Sx.cnd (g == (0 : Int)) (m == (0 : Int)) Bool.false) (Go.Sx.cnd (k == (4 : Int)) (Go.Sx.cnd (Go.Sx.cnd (Decidable.decide (g ≥ (1 : Int))) (Decidable.decide (g ≤ (3 : Int))) Bool.false) (Go.Sx.A.f64_1 m (Go.IntKind.i64.wrap (g - (1 : Int)))) Bool.false) (Go.Sx.cnd (g != (0 : Int)) Bool.false (Go.Sx.cnd (Go.Sx.cnd (k == (3 : Int)) (s != (0 : Int)) Bool.false) (Go.Sx.A.f64_1 m (Go.Sx.cnd (b == (30 : Int)) (1 : Int) (Go.Sx.cnd (b == (21 : Int)) (2 : Int) (3 : Int)))) (Go.Sx.cnd (k == (7 : Int)) (Decidable.decide (m < (8 : Int))) (Go.Sx.cnd (k == (9 : Int)) Bool.true (Go.Sx.cnd (k == (10 : Int)) (Decidable.decide (m ≤ Go.Sx.A.p26 b.toNat)) (m == (0 : Int))))))))))
theorem n48_1 (k : Int) (a : Int) (b : Int) (r : Int) (g : Int) (s : Int) (m : Int) : f48_1 k a b r g s m := by
  simp only [f48_1, f64_0, f69_0, f69_1, cnd_eq]
  grind (splits := 40) [wrap_i64]
theorem n48_2 (k : Int) (a : Int) (b : Int) (r : Int) (g : Int) (s : Int) (m : Int) : f48_2 k a b r g s m := by
  simp only [f48_2, f64_0, f69_0, f69_1, cnd_eq]
  grind (splits := 40) [wrap_i64]
theorem n48_3 (k : Int) (a : Int) (b : Int) (r : Int) (g : Int) (s : Int) (m : Int) : f48_3 k a b r g s m := by
  simp only [f48_3, f64_0, f69_0, f69_1, cnd_eq]
  grind (splits := 40) [wrap_i64]
def f48 : List SV → Option (Tr SV)
  | [.agg [.int .i64 k, .int .u64 a, .int .i64 b, .int .i64 r, .int .i64 g, .int .i64 s, .int .u64 m]] => some (Go.Sx.Tr.need (f48_0 k a b r g s m) (Go.Sx.Tr.need (f48_4 k a b r g s m) (Go.Sx.Tr.leaf (Go.Sx.SV.bool (f48_5 k a b r g s m)))))
  | _ => none
theorem s48 : Sound Try.prog th 48 (pureC f48) := pure_auto2 (us := us48) (nice := nice46) nok46 20 fun args t h => by
  unfold f48 at h
  split at h
  · rename_i k a b r g s m
    cases h
    refine ⟨(Go.Sx.Tr.need (f48_0 k a b r g s m) (Go.Sx.Tr.need (f48_1 k a b r g s m) (Go.Sx.Tr.need (f48_2 k a b r g s m) (Go.Sx.Tr.need (f48_3 k a b r g s m) (Go.Sx.Tr.need (f48_4 k a b r g s m) (Go.Sx.Tr.leaf (Go.Sx.SV.bool (f48_5 k a b r g s m)))))))), by kernel_rfl, fun ok => ?_, rfl⟩
    first
    | (simp only [Tr.ok, n48_1, n48_2, n48_3, true_and, and_true, forall_const, implies_true]; done)
    | (simp only [Tr.ok, n48_1, n48_2, n48_3, true_and, and_true, forall_const, implies_true]; done)
    | (simpa only [Tr.ok, n48_1, n48_2, n48_3, true_and, and_true, forall_const, implies_true] using ok; done)
    | (simp only [Tr.ok, n48_1, n48_2, n48_3, f48_0, f48_4, true_and, and_true, forall_const, implies_true] at ok ⊢; grind)
  · cases h
def nice48 : List (Nat × CF th.R) := (48, pureC f48) :: nice46
theorem nok48 : NiceOk Try.prog th nice48 := ⟨s48, nok46⟩
end Go.Sx.A

namespace Go.Sx.A
open Go Go.Sx Go.Proofs Go.RowKit
def us16 : List Un := [⟨59, [(2, 6)], [6]⟩]
def f16_0 (k : Int) (a : Int) (b : Int) (r : Int) (g : Int) (s : Int) (m : Int) : Prop := Go.Sx.cnd (Go.Sx.cnd (Go.Sx.cnd (!Go.Sx.A.f46_1 k a b r g s m) Bool.true !Go.Sx.A.f47_0 r) Bool.true (Decidable.decide (s < (0 : Int)))) Bool.true (Decidable.decide (s > (4095 : Int))) = Bool.false → Go.Sx.cnd (Go.Sx.cnd (r != (0 : Int)) (k != (3 : Int)) Bool.false) (Go.Sx.cnd (k != (9 : Int)) Bool.true (Decidable.decide (r > (3 : Int)))) Bool.false = Bool.false → Go.Sx.cnd (Go.Sx.cnd (Go.Sx.cnd (s != (0 : Int)) (k != (3 : Int)) Bool.false) (k != (4 : Int)) Bool.false) (k != (5 : Int)) Bool.false = Bool.false → Go.Sx.A.f48_0 k a b r g s m
def f16_1 (k : Int) (a : Int) (b : Int) (r : Int) (g : Int) (s : Int) (m : Int) : Prop := Go.Sx.cnd (Go.Sx.cnd (Go.Sx.cnd (!Go.Sx.A.f46_1 k a b r g s m) Bool.true !Go.Sx.A.f47_0 r) Bool.true (Decidable.decide (s < (0 : Int)))) Bool.true (Decidable.decide (s > (4095 : Int))) = Bool.false → Go.Sx.cnd (Go.Sx.cnd (r != (0 : Int)) (k != (3 : Int)) Bool.false) (Go.Sx.cnd (k != (9 : Int)) Bool.true (Decidable.decide (r > (3 : Int)))) Bool.false = Bool.false → Go.Sx.cnd (Go.Sx.cnd (Go.Sx.cnd (s != (0 : Int)) (k != (3 : Int)) Bool.false) (k != (4 : Int)) Bool.false) (k != (5 : Int)) Bool.false = Bool.false → Go.Sx.A.f48_4 k a b r g s m
def f16_2 (k : Int) (a : Int) (b : Int) (r : Int) (g : Int) (s : Int) (m : Int) : Bool := Go.Sx.cnd (Go.Sx.cnd (Go.Sx.cnd (Go.Sx.cnd (!Go.Sx.A.f46_1 k a b r g s m) Bool.true !Go.Sx.A.f47_0 r) Bool.true (Decidable.decide (s < (0 : Int)))) Bool.true (Decidable.decide (s > (4095 : Int)))) Bool.false (Go.Sx.cnd (Go.Sx.cnd (Go.Sx.cnd (r != (0 : Int)) (k != (3 : Int)) Bool.false) (Go.Sx.cnd (k != (9 : Int)) Bool.true (Decidable.decide (r > (3 : Int)))) Bool.false) Bool.false (Go.Sx.cnd (Go.Sx.cnd (Go.Sx.cnd (Go.Sx.cnd (s != (0 : Int)) (k != (3 : Int)) Bool.false) (k != (4 : Int)) Bool.false) (k != (5 : Int)) Bool.false) Bool.false (Go.Sx.A.f48_5 k a b r g s m)))
theorem n16_0 (k : Int) (a : Int) (b : Int) (r : Int) (g : Int) (s : Int) (m : Int) : f16_0 k a b r g s m := by
  simp only [f16_0, f46_1, f48_0, f48_1, f48_2, f48_3, f48_4, f30_0, cnd_eq]
  grind (splits := 40) [wrap_i64]
theorem n16_1 (k : Int) (a : Int) (b : Int) (r : Int) (g : Int) (s : Int) (m : Int) : f16_1 k a b r g s m := by
  simp only [f16_1, f46_1, f48_0, f48_1, f48_2, f48_3, f48_4, f30_0, cnd_eq]
  grind (splits := 40) [wrap_i64]
def f16 : List SV → Option (Tr SV)
  | [.agg [.int .i64 k, .int .u64 a, .int .i64 b, .int .i64 r, .int .i64 g, .int .i64 s, .int .u64 m]] => some (Go.Sx.Tr.leaf (Go.Sx.SV.bool (f16_2 k a b r g s m)))
  | _ => none
theorem s16 : Sound Try.prog th 16 (pureC f16) := pure_auto2 (us := us16) (nice := nice48) nok48 20 fun args t h => by
  unfold f16 at h
  split at h
  · rename_i k a b r g s m
    cases h
    refine ⟨(Go.Sx.Tr.need (f16_0 k a b r g s m) (Go.Sx.Tr.need (f16_1 k a b r g s m) (Go.Sx.Tr.leaf (Go.Sx.SV.bool (f16_2 k a b r g s m))))), by kernel_rfl, fun ok => ?_, rfl⟩
    first
    | (simp only [Tr.ok, n16_0, n16_1, true_and, and_true, forall_const, implies_true]; done)
    | (simp only [Tr.ok, n16_0, n16_1, true_and, and_true, forall_const, implies_true]; done)
    | (simpa only [Tr.ok, n16_0, n16_1, true_and, and_true, forall_const, implies_true] using ok; done)
    | (simp only [Tr.ok, n16_0, n16_1, true_and, and_true, forall_const, implies_true] at ok ⊢; grind)
  · cases h
def nice16 : List (Nat × CF th.R) := (16, pureC f16) :: nice48
theorem nok16 : NiceOk Try.prog th nice16 := ⟨s16, nok48⟩
end Go.Sx.A

namespace Go.Sx.A
open Go Go.Sx Go.Proofs Go.RowKit
def us19 : List Un := [⟨59, [(2, 6)], [6]⟩]
def f19_0 (k : Int) (a : Int) (b : Int) (r : Int) (g : Int) (s : Int) (m : Int) : Prop := (Bool.true = Bool.true → (4 : Int) ≤ (4611686018427387904 : Int)) ∧ (Bool.true = Bool.true → (10 : Int) ≤ (4611686018427387904 : Int)) ∧ (Bool.true = Bool.true → (13 : Int) ≤ (4611686018427387904 : Int)) ∧ (Bool.true = Bool.true → (19 : Int) ≤ (4611686018427387904 : Int))
def f19_1 (k : Int) (a : Int) (b : Int) (r : Int) (g : Int) (s : Int) (m : Int) : Prop := (Bool.true = Bool.true → (32 : Int) ≠ (0 : Int)) ∧ (Bool.true = Bool.true → (35 : Int) ≤ (4611686018427387904 : Int))
def f19_2 (k : Int) (a : Int) (b : Int) (r : Int) (g : Int) (s : Int) (m : Int) : Int := Go.IntKind.u64.wrap (Go.IntKind.u64.wrap (Go.IntKind.u64.wrap (Go.IntKind.u64.wrap (Go.IntKind.u64.wrap (Go.IntKind.u64.wrap k + Go.IntKind.u64.wrap (Go.IntKind.u64.wrap b * (16 : Int))) + Go.IntKind.u64.wrap (Go.IntKind.u64.wrap r * (1024 : Int))) + Go.IntKind.u64.wrap (Go.IntKind.u64.wrap g * (8192 : Int))) + Go.IntKind.u64.wrap (Go.IntKind.u64.wrap s * (524288 : Int))) + Go.IntKind.u64.wrap (Go.IntKind.u64.wrap (a.tdiv (32 : Int)) * (34359738368 : Int)))
theorem n19_0 (k : Int) (a : Int) (b : Int) (r : Int) (g : Int) (s : Int) (m : Int) : f19_0 k a b r g s m := by
  simp only [f19_0, cnd_eq]
  grind (splits := 40)
theorem n19_1 (k : Int) (a : Int) (b : Int) (r : Int) (g : Int) (s : Int) (m : Int) : f19_1 k a b r g s m := by
  simp only [f19_1, cnd_eq]
  grind (splits := 40)
def f19 : List SV → Option (Tr SV)
  | [.agg [.int .i64 k, .int .u64 a, .int .i64 b, .int .i64 r, .int .i64 g, .int .i64 s, .int .u64 m]] => some (Go.Sx.Tr.leaf (Go.Sx.SV.int (Go.IntKind.u64) (f19_2 k a b r g s m)))
  | _ => none
theorem s19 : Sound Try.prog th 19 (pureC f19) := pure_auto2 (us := us19) (nice := nice16) nok16 20 fun args t h => by
  unfold f19 at h
  split at h
  · rename_i k a b r g s m
    cases h
    refine ⟨(Go.Sx.Tr.need (f19_0 k a b r g s m) (Go.Sx.Tr.need (f19_1 k a b r g s m) (Go.Sx.Tr.leaf (Go.Sx.SV.int (Go.IntKind.u64) (f19_2 k a b r g s m))))), by kernel_rfl, fun ok => ?_, rfl⟩
    first
    | (simp only [Tr.ok, n19_0, n19_1, true_and, and_true, forall_const, implies_true]; done)
    | (simp only [Tr.ok, n19_0, n19_1, true_and, and_true, forall_const, implies_true]; done)
    | (simpa only [Tr.ok, n19_0, n19_1, true_and, and_true, forall_const, implies_true] using ok; done)
    | (simp only [Tr.ok, n19_0, n19_1, true_and, and_true, forall_const, implies_true] at ok ⊢; grind)
  · cases h
def nice19 : List (Nat × CF th.R) := (19, pureC f19) :: nice16
theorem nok19 : NiceOk Try.prog th nice19 := ⟨s19, nok16⟩
end Go.Sx.A

namespace Go.Sx.A
open Go Go.Sx Go.Proofs Go.RowKit
def us34 : List Un := [⟨59, [(2, 6)], [6]⟩]
def f34_0 (k : Int) (a : Int) (b : Int) (r : Int) (g : Int) (s : Int) (m : Int) : Prop := Go.Sx.cnd (k == (2 : Int)) Bool.true (k == (10 : Int)) = Bool.true → b ≤ (4611686018427387904 : Int)
def f34_1 (k : Int) (a : Int) (b : Int) (r : Int) (g : Int) (s : Int) (m : Int) : Int := Go.Sx.cnd (Go.Sx.cnd (k == (2 : Int)) Bool.true (k == (10 : Int))) (Go.IntKind.i64.wrap (Go.Sx.A.p26 b.toNat)) (Go.Sx.cnd (k == (8 : Int)) (2 : Int) (0 : Int))
def f34 : List SV → Option (Tr SV)
  | [.agg [.int .i64 k, .int .u64 a, .int .i64 b, .int .i64 r, .int .i64 g, .int .i64 s, .int .u64 m]] => some (Go.Sx.Tr.need (f34_0 k a b r g s m) (Go.Sx.Tr.leaf (Go.Sx.SV.int (Go.IntKind.i64) (f34_1 k a b r g s m))))
  | _ => none
theorem s34 : Sound Try.prog th 34 (pureC f34) := pure_auto (us := us34) (nice := nice19) nok19 20 fun args t h => by
  unfold f34 at h
  split at h
  · cases h; kernel_rfl
  · cases h
def nice34 : List (Nat × CF th.R) := (34, pureC f34) :: nice19
theorem nok34 : NiceOk Try.prog th nice34 := ⟨s34, nok19⟩
end Go.Sx.A

namespace Go.Sx.A
open Go Go.Sx Go.Proofs Go.RowKit
def us25 : List Un := [⟨59, [(2, 6)], [6]⟩]
def f25_0 (k : Int) (b : Int) : Int := Go.Sx.cnd (Go.Sx.cnd (k == (1 : Int)) (Go.Sx.cnd (Decidable.decide (b ≥ (5 : Int))) (Decidable.decide (b ≤ (32 : Int))) Bool.false) Bool.false) b (Go.Sx.cnd (k == (1 : Int)) (-2 : Int) (Go.Sx.cnd (Go.Sx.cnd (k == (2 : Int)) (Go.Sx.cnd (Decidable.decide (b ≥ (1 : Int))) (Decidable.decide (b ≤ (12 : Int))) Bool.false) Bool.false) (Go.IntKind.i64.wrap (b + (5 : Int))) (Go.Sx.cnd (k == (2 : Int)) (-2 : Int) (Go.Sx.cnd (Go.Sx.cnd (k == (3 : Int)) (Go.Sx.cnd (Go.Sx.cnd (b == (12 : Int)) Bool.true (b == (21 : Int))) Bool.true (b == (30 : Int))) Bool.false) b (Go.Sx.cnd (k == (3 : Int)) (-2 : Int) (Go.Sx.cnd (Go.Sx.cnd (k == (9 : Int)) (5 : Int) (Go.Sx.cnd (k == (8 : Int)) (7 : Int) (Go.Sx.cnd (Go.Sx.cnd (k == (4 : Int)) Bool.true (k == (5 : Int))) (12 : Int) (0 : Int))) == (0 : Int)) (-1 : Int) (Go.Sx.cnd (b != (0 : Int)) (-2 : Int) (Go.Sx.cnd (k == (9 : Int)) (5 : Int) (Go.Sx.cnd (k == (8 : Int)) (7 : Int) (Go.Sx.cnd (Go.Sx.cnd (k == (4 : Int)) Bool.true (k == (5 : Int))) (12 : Int) (0 : Int)))))))))))
def f25 : List SV → Option (Tr SV)
  | [.int .i64 k, .int .i64 b] => some (Go.Sx.Tr.leaf (Go.Sx.SV.int (Go.IntKind.i64) (f25_0 k b)))
  | _ => none
theorem s25 : Sound Try.prog th 25 (pureC f25) := pure_auto (us := us25) (nice := nice34) nok34 20 fun args t h => by
  unfold f25 at h
  split at h
  · cases h; kernel_rfl
  · cases h
theorem b25 (k b : Int) : f25_0 k b ≤ 63 := by
  simp only [f25_0, cnd_eq]
  grind (splits := 40) [wrap_i64]
def nice25 : List (Nat × CF th.R) := (25, pureC f25) :: nice34
theorem nok25 : NiceOk Try.prog th nice25 := ⟨s25, nok34⟩
end Go.Sx.A

namespace Go.Sx.A
open Go Go.Sx Go.Proofs Go.RowKit
def us38 : List Un := [⟨59, [(2, 6)], [6]⟩]
def f38_0 (k : Int) (b : Int) (a : Int) : Prop := (Go.Sx.A.f25_0 k b == (-1 : Int)) = Bool.false → (Go.Sx.A.f25_0 k b == (-2 : Int)) = Bool.false → Go.Sx.A.f25_0 k b ≤ (4611686018427387904 : Int)
def f38_1 (k : Int) (b : Int) (a : Int) : Prop := (Go.Sx.A.f25_0 k b == (-1 : Int)) = Bool.false → (Go.Sx.A.f25_0 k b == (-2 : Int)) = Bool.false → Go.Sx.A.p26 (Go.Sx.A.f25_0 k b).toNat ≠ (0 : Int)
def f38_2 (k : Int) (b : Int) (a : Int) : Int := Go.Sx.cnd (Go.Sx.A.f25_0 k b == (-1 : Int)) (0 : Int) (Go.Sx.cnd (Go.Sx.A.f25_0 k b == (-2 : Int)) (0 : Int) (Go.Sx.cnd (a.tmod (Go.Sx.A.p26 (Go.Sx.A.f25_0 k b).toNat) != (0 : Int)) (0 : Int) (Go.Sx.cnd (Decidable.decide (a ≥ (4294967296 : Int))) (0 : Int) (Go.Sx.cnd (k == (9 : Int)) (Go.Sx.cnd (k == (3 : Int)) (Go.Sx.cnd (k == (2 : Int)) k k) (Go.Sx.cnd (k == (2 : Int)) k k)) (Go.Sx.cnd (k == (3 : Int)) (Go.Sx.cnd (k == (2 : Int)) k k) (Go.Sx.cnd (k == (2 : Int)) k k))))))
def f38_3 (k : Int) (b : Int) (a : Int) : Int := Go.Sx.cnd (Go.Sx.A.f25_0 k b == (-1 : Int)) (0 : Int) (Go.Sx.cnd (Go.Sx.A.f25_0 k b == (-2 : Int)) (0 : Int) (Go.Sx.cnd (a.tmod (Go.Sx.A.p26 (Go.Sx.A.f25_0 k b).toNat) != (0 : Int)) (0 : Int) (Go.Sx.cnd (Decidable.decide (a ≥ (4294967296 : Int))) (0 : Int) (Go.Sx.cnd (k == (9 : Int)) (Go.Sx.cnd (k == (3 : Int)) (Go.Sx.cnd (k == (2 : Int)) a a) (Go.Sx.cnd (k == (2 : Int)) a a)) (Go.Sx.cnd (k == (3 : Int)) (Go.Sx.cnd (k == (2 : Int)) a a) (Go.Sx.cnd (k == (2 : Int)) a a))))))
def f38_4 (k : Int) (b : Int) (a : Int) : Int := Go.Sx.cnd (Go.Sx.A.f25_0 k b == (-1 : Int)) (0 : Int) (Go.Sx.cnd (Go.Sx.A.f25_0 k b == (-2 : Int)) (0 : Int) (Go.Sx.cnd (a.tmod (Go.Sx.A.p26 (Go.Sx.A.f25_0 k b).toNat) != (0 : Int)) (0 : Int) (Go.Sx.cnd (Decidable.decide (a ≥ (4294967296 : Int))) (0 : Int) (Go.Sx.cnd (k == (9 : Int)) (Go.Sx.cnd (k == (3 : Int)) (Go.Sx.cnd (k == (2 : Int)) b (Go.Sx.A.f25_0 k b)) (Go.Sx.cnd (k == (2 : Int)) b (Go.Sx.A.f25_0 k b))) (Go.Sx.cnd (k == (3 : Int)) (Go.Sx.cnd (k == (2 : Int)) b (Go.Sx.A.f25_0 k b)) (Go.Sx.cnd (k == (2 : Int)) b (Go.Sx.A.f25_0 k b)))))))
def f38_5 (k : Int) (b : Int) (a : Int) : Int := Go.Sx.cnd (Go.Sx.A.f25_0 k b == (-1 : Int)) (0 : Int) (Go.Sx.cnd (Go.Sx.A.f25_0 k b == (-2 : Int)) (0 : Int) (Go.Sx.cnd (a.tmod (Go.Sx.A.p26 (Go.Sx.A.f25_0 k b).toNat) != (0 : Int)) (0 : Int) (Go.Sx.cnd (Decidable.decide (a ≥ (4294967296 : Int))) (0 : Int) (Go.Sx.cnd (k == (9 : Int)) (3 : Int) (Go.Sx.cnd (k == (3 : Int)) (7 : Int) (Go.Sx.cnd (k == (2 : Int)) (0 : Int) (0 : Int)))))))
def f38_6 (k : Int) (b : Int) (a : Int) : Int := Go.Sx.cnd (Go.Sx.A.f25_0 k b == (-1 : Int)) (0 : Int) (Go.Sx.cnd (Go.Sx.A.f25_0 k b == (-2 : Int)) (0 : Int) (Go.Sx.cnd (a.tmod (Go.Sx.A.p26 (Go.Sx.A.f25_0 k b).toNat) != (0 : Int)) (0 : Int) (Go.Sx.cnd (Decidable.decide (a ≥ (4294967296 : Int))) (0 : Int) (Go.Sx.cnd (k == (9 : Int)) (Go.Sx.cnd (k == (3 : Int)) (Go.Sx.cnd (k == (2 : Int)) (0 : Int) (0 : Int)) (Go.Sx.cnd (k == (2 : Int)) (0 : Int) (0 : Int))) (Go.Sx.cnd (k == (3 : Int)) (Go.Sx.cnd (k == (2 : Int)) (0 : Int) (0 : Int)) (Go.Sx.cnd (k == (2 : Int)) (0 : Int) (0 : Int)))))))
def f38_7 (k : Int) (b : Int) (a : Int) : Int := Go.Sx.cnd (Go.Sx.A.f25_0 k b == (-1 : Int)) (20 : Int) (Go.Sx.cnd (Go.Sx.A.f25_0 k b == (-2 : Int)) (11 : Int) (Go.Sx.cnd (a.tmod (Go.Sx.A.p26 (Go.Sx.A.f25_0 k b).toNat) != (0 : Int)) (13 : Int) (Go.Sx.cnd (Decidable.decide (a ≥ (4294967296 : Int))) (12 : Int) (0 : Int))))
theorem n38_0 (k : Int) (b : Int) (a : Int) : f38_0 k b a := by
  have := b25 k b
  simp only [f38_0, cnd_eq]
  grind (splits := 40) [p26_ne]
theorem n38_1 (k : Int) (b : Int) (a : Int) : f38_1 k b a := by
  have := b25 k b
  simp only [f38_1, cnd_eq]
  grind (splits := 40) [p26_ne]
def f38 : List SV → Option (Tr SV)
  | [.int .i64 k, .int .i64 b, .int .u64 a] => some (Go.Sx.Tr.leaf (Go.Sx.SV.tup (List.cons (Go.Sx.SV.agg (List.cons (Go.Sx.SV.int (Go.IntKind.i64) (f38_2 k b a)) (List.cons (Go.Sx.SV.int (Go.IntKind.u64) (f38_3 k b a)) (List.cons (Go.Sx.SV.int (Go.IntKind.i64) (f38_4 k b a)) (List.cons (Go.Sx.SV.int (Go.IntKind.i64) (f38_5 k b a)) (List.cons (Go.Sx.SV.int (Go.IntKind.i64) (f38_6 k b a)) (List.cons (Go.Sx.SV.int (Go.IntKind.i64) (f38_6 k b a)) (List.cons (Go.Sx.SV.int (Go.IntKind.u64) (f38_6 k b a)) (List.nil))))))))) (List.cons (Go.Sx.SV.int (Go.IntKind.i64) (f38_7 k b a)) (List.nil)))))
  | _ => none
theorem s38 : Sound Try.prog th 38 (pureC f38) := pure_auto2 (us := us38) (nice := nice25) nok25 20 fun args t h => by
  unfold f38 at h
  split at h
  · rename_i k b a
    cases h
    refine ⟨(Go.Sx.Tr.need (f38_0 k b a) (Go.Sx.Tr.need (f38_1 k b a) (Go.Sx.Tr.leaf (Go.Sx.SV.tup (List.cons (Go.Sx.SV.agg (List.cons (Go.Sx.SV.int (Go.IntKind.i64) (f38_2 k b a)) (List.cons (Go.Sx.SV.int (Go.IntKind.u64) (f38_3 k b a)) (List.cons (Go.Sx.SV.int (Go.IntKind.i64) (f38_4 k b a)) (List.cons (Go.Sx.SV.int (Go.IntKind.i64) (f38_5 k b a)) (List.cons (Go.Sx.SV.int (Go.IntKind.i64) (f38_6 k b a)) (List.cons (Go.Sx.SV.int (Go.IntKind.i64) (f38_6 k b a)) (List.cons (Go.Sx.SV.int (Go.IntKind.u64) (f38_6 k b a)) (List.nil))))))))) (List.cons (Go.Sx.SV.int (Go.IntKind.i64) (f38_7 k b a)) (List.nil))))))), by kernel_rfl, fun ok => ?_, rfl⟩
    first
    | (simp only [Tr.ok, n38_0, n38_1, true_and, and_true, forall_const, implies_true]; done)
    | (simp only [Tr.ok, n38_0, n38_1, true_and, and_true, forall_const, implies_true]; done)
    | (simpa only [Tr.ok, n38_0, n38_1, true_and, and_true, forall_const, implies_true] using ok; done)
    | (simp only [Tr.ok, n38_0, n38_1, true_and, and_true, forall_const, implies_true] at ok ⊢; grind)
  · cases h
def nice38 : List (Nat × CF th.R) := (38, pureC f38) :: nice25
theorem nok38 : NiceOk Try.prog th nice38 := ⟨s38, nok25⟩
end Go.Sx.A

namespace Go.Sx.A
open Go Go.Sx Go.Proofs Go.RowKit
def us27 : List Un := [⟨59, [(2, 6)], [6]⟩]
def f27_0 (k : Int) (a : Int) (b : Int) (r : Int) (g : Int) (s : Int) (m : Int) : Prop := Go.Sx.cnd (!Go.Sx.A.f16_2 k a b r g s m) Bool.true (Decidable.decide (Go.Sx.A.f30_0 k b < (0 : Int))) = Bool.false → Go.Sx.A.f30_0 k b ≤ (4611686018427387904 : Int)
def f27_1 (k : Int) (a : Int) (b : Int) (r : Int) (g : Int) (s : Int) (m : Int) : Int := Go.Sx.cnd (Go.Sx.cnd (!Go.Sx.A.f16_2 k a b r g s m) Bool.true (Decidable.decide (Go.Sx.A.f30_0 k b < (0 : Int)))) (0 : Int) (Go.Sx.A.p26 (Go.Sx.A.f30_0 k b).toNat)
def f27_2 (k : Int) (a : Int) (b : Int) (r : Int) (g : Int) (s : Int) (m : Int) : Bool := Go.Sx.cnd (Go.Sx.cnd (!Go.Sx.A.f16_2 k a b r g s m) Bool.true (Decidable.decide (Go.Sx.A.f30_0 k b < (0 : Int)))) Bool.false Bool.true
theorem n27_0 (k : Int) (a : Int) (b : Int) (r : Int) (g : Int) (s : Int) (m : Int) : f27_0 k a b r g s m := by
  have := b30 k b
  simp only [f27_0, cnd_eq]
  grind (splits := 40)
def f27 : List SV → Option (Tr SV)
  | [.agg [.int .i64 k, .int .u64 a, .int .i64 b, .int .i64 r, .int .i64 g, .int .i64 s, .int .u64 m]] => some (Go.Sx.Tr.leaf (Go.Sx.SV.tup (List.cons (Go.Sx.SV.int (Go.IntKind.u64) (f27_1 k a b r g s m)) (List.cons (Go.Sx.SV.bool (f27_2 k a b r g s m)) (List.nil)))))
  | _ => none
theorem s27 : Sound Try.prog th 27 (pureC f27) := pure_auto2 (us := us27) (nice := nice38) nok38 20 fun args t h => by
  unfold f27 at h
  split at h
  · rename_i k a b r g s m
    cases h
    refine ⟨(Go.Sx.Tr.need (f27_0 k a b r g s m) (Go.Sx.Tr.leaf (Go.Sx.SV.tup (List.cons (Go.Sx.SV.int (Go.IntKind.u64) (f27_1 k a b r g s m)) (List.cons (Go.Sx.SV.bool (f27_2 k a b r g s m)) (List.nil)))))), by kernel_rfl, fun ok => ?_, rfl⟩
    first
    | (simp only [Tr.ok, n27_0, true_and, and_true, forall_const, implies_true]; done)
    | (simp only [Tr.ok, n27_0, true_and, and_true, forall_const, implies_true]; done)
    | (simpa only [Tr.ok, n27_0, true_and, and_true, forall_const, implies_true] using ok; done)
    | (simp only [Tr.ok, n27_0, true_and, and_true, forall_const, implies_true] at ok ⊢; grind)
  · cases h
def nice27 : List (Nat × CF th.R) := (27, pureC f27) :: nice38
theorem nok27 : NiceOk Try.prog th nice27 := ⟨s27, nok38⟩
end Go.Sx.A

namespace Go.Sx.A
open Go Go.Sx Go.Proofs Go.RowKit
def us68 : List Un := [⟨59, [(2, 6)], [6]⟩]
def f68_0 (k : Int) (b : Int) : Int := Go.Sx.cnd (Go.Sx.cnd (k == (1 : Int)) (k == (1 : Int)) (k == (2 : Int))) k (Go.Sx.cnd (k == (3 : Int)) k (Go.Sx.cnd (Go.Sx.cnd (k == (9 : Int)) Bool.false (Go.Sx.cnd (k == (8 : Int)) Bool.false (Go.Sx.cnd (Go.Sx.cnd (k == (4 : Int)) (k == (4 : Int)) (k == (5 : Int))) Bool.false Bool.true))) (0 : Int) (Go.Sx.cnd (b != (0 : Int)) (Go.Sx.cnd (k == (9 : Int)) k (Go.Sx.cnd (k == (8 : Int)) k k)) (Go.Sx.cnd (k == (9 : Int)) k (Go.Sx.cnd (k == (8 : Int)) k k)))))
def f68_1 (k : Int) (b : Int) : Int := Go.Sx.cnd (Go.Sx.cnd (k == (1 : Int)) (k == (1 : Int)) (k == (2 : Int))) (0 : Int) (Go.Sx.cnd (k == (3 : Int)) (0 : Int) (Go.Sx.cnd (Go.Sx.cnd (k == (9 : Int)) Bool.false (Go.Sx.cnd (k == (8 : Int)) Bool.false (Go.Sx.cnd (Go.Sx.cnd (k == (4 : Int)) (k == (4 : Int)) (k == (5 : Int))) Bool.false Bool.true))) (0 : Int) (Go.Sx.cnd (b != (0 : Int)) (Go.Sx.cnd (k == (9 : Int)) (0 : Int) (Go.Sx.cnd (k == (8 : Int)) (0 : Int) (0 : Int))) (Go.Sx.cnd (k == (9 : Int)) (0 : Int) (Go.Sx.cnd (k == (8 : Int)) (0 : Int) (0 : Int))))))
def f68_2 (k : Int) (b : Int) : Int := Go.Sx.cnd (Go.Sx.cnd (k == (1 : Int)) (k == (1 : Int)) (k == (2 : Int))) b (Go.Sx.cnd (k == (3 : Int)) b (Go.Sx.cnd (Go.Sx.cnd (k == (9 : Int)) Bool.false (Go.Sx.cnd (k == (8 : Int)) Bool.false (Go.Sx.cnd (Go.Sx.cnd (k == (4 : Int)) (k == (4 : Int)) (k == (5 : Int))) Bool.false Bool.true))) (0 : Int) (Go.Sx.cnd (b != (0 : Int)) (-1 : Int) (Go.Sx.cnd (k == (9 : Int)) (5 : Int) (Go.Sx.cnd (k == (8 : Int)) (7 : Int) (12 : Int))))))
def f68_3 (k : Int) (b : Int) : Int := Go.Sx.cnd (Go.Sx.cnd (k == (1 : Int)) (k == (1 : Int)) (k == (2 : Int))) (0 : Int) (Go.Sx.cnd (k == (3 : Int)) (7 : Int) (Go.Sx.cnd (Go.Sx.cnd (k == (9 : Int)) Bool.false (Go.Sx.cnd (k == (8 : Int)) Bool.false (Go.Sx.cnd (Go.Sx.cnd (k == (4 : Int)) (k == (4 : Int)) (k == (5 : Int))) Bool.false Bool.true))) (0 : Int) (Go.Sx.cnd (b != (0 : Int)) (Go.Sx.cnd (k == (9 : Int)) (3 : Int) (Go.Sx.cnd (k == (8 : Int)) (0 : Int) (0 : Int))) (Go.Sx.cnd (k == (9 : Int)) (3 : Int) (Go.Sx.cnd (k == (8 : Int)) (0 : Int) (0 : Int))))))
def f68_4 (k : Int) (b : Int) : Bool := Go.Sx.cnd (Go.Sx.cnd (k == (1 : Int)) (k == (1 : Int)) (k == (2 : Int))) Bool.true (Go.Sx.cnd (k == (3 : Int)) Bool.true (Go.Sx.cnd (Go.Sx.cnd (k == (9 : Int)) Bool.false (Go.Sx.cnd (k == (8 : Int)) Bool.false (Go.Sx.cnd (Go.Sx.cnd (k == (4 : Int)) (k == (4 : Int)) (k == (5 : Int))) Bool.false Bool.true))) Bool.false Bool.true))
def f68 : List SV → Option (Tr SV)
  | [.int .i64 k, .int .i64 b] => some (Go.Sx.Tr.leaf (Go.Sx.SV.tup (List.cons (Go.Sx.SV.agg (List.cons (Go.Sx.SV.int (Go.IntKind.i64) (f68_0 k b)) (List.cons (Go.Sx.SV.int (Go.IntKind.u64) (f68_1 k b)) (List.cons (Go.Sx.SV.int (Go.IntKind.i64) (f68_2 k b)) (List.cons (Go.Sx.SV.int (Go.IntKind.i64) (f68_3 k b)) (List.cons (Go.Sx.SV.int (Go.IntKind.i64) (f68_1 k b)) (List.cons (Go.Sx.SV.int (Go.IntKind.i64) (f68_1 k b)) (List.cons (Go.Sx.SV.int (Go.IntKind.u64) (f68_1 k b)) (List.nil))))))))) (List.cons (Go.Sx.SV.bool (f68_4 k b)) (List.nil)))))
  | _ => none
theorem s68 : Sound Try.prog th 68 (pureC f68) := pure_auto (us := us68) (nice := nice27) nok27 20 fun args t h => by
  unfold f68 at h
  split at h
  · cases h; kernel_rfl
  · cases h
def nice68 : List (Nat × CF th.R) := (68, pureC f68) :: nice27
theorem nok68 : NiceOk Try.prog th nice68 := ⟨s68, nok27⟩
end Go.Sx.A

namespace Go.Sx.A
open Go Go.Sx Go.Proofs Go.RowKit
def us56 : List Un := [⟨59, [(2, 6)], [6]⟩]
def f56_0 (k : Int) (b : Int) : Int := Go.Sx.cnd (!Go.Sx.A.f68_4 k b) (Go.Sx.A.f68_0 k b) (Go.Sx.cnd (!Go.Sx.A.f17_1 (Go.Sx.A.f68_0 k b) (Go.Sx.A.f68_1 k b) (Go.Sx.A.f68_2 k b) (Go.Sx.A.f68_3 k b) (Go.Sx.A.f68_1 k b) (Go.Sx.A.f68_1 k b) (Go.Sx.A.f68_1 k b)) (Go.Sx.A.f68_0 k b) (Go.Sx.A.f68_0 k b))
def f56_1 (k : Int) (b : Int) : Int := Go.Sx.cnd (!Go.Sx.A.f68_4 k b) (Go.Sx.A.f68_1 k b) (Go.Sx.cnd (!Go.Sx.A.f17_1 (Go.Sx.A.f68_0 k b) (Go.Sx.A.f68_1 k b) (Go.Sx.A.f68_2 k b) (Go.Sx.A.f68_3 k b) (Go.Sx.A.f68_1 k b) (Go.Sx.A.f68_1 k b) (Go.Sx.A.f68_1 k b)) (Go.Sx.A.f68_1 k b) (Go.Sx.A.f68_1 k b))
def f56_2 (k : Int) (b : Int) : Int := Go.Sx.cnd (!Go.Sx.A.f68_4 k b) (Go.Sx.A.f68_2 k b) (Go.Sx.cnd (!Go.Sx.A.f17_1 (Go.Sx.A.f68_0 k b) (Go.Sx.A.f68_1 k b) (Go.Sx.A.f68_2 k b) (Go.Sx.A.f68_3 k b) (Go.Sx.A.f68_1 k b) (Go.Sx.A.f68_1 k b) (Go.Sx.A.f68_1 k b)) (Go.Sx.A.f68_2 k b) (Go.Sx.A.f68_2 k b))
def f56_3 (k : Int) (b : Int) : Int := Go.Sx.cnd (!Go.Sx.A.f68_4 k b) (Go.Sx.A.f68_3 k b) (Go.Sx.cnd (!Go.Sx.A.f17_1 (Go.Sx.A.f68_0 k b) (Go.Sx.A.f68_1 k b) (Go.Sx.A.f68_2 k b) (Go.Sx.A.f68_3 k b) (Go.Sx.A.f68_1 k b) (Go.Sx.A.f68_1 k b) (Go.Sx.A.f68_1 k b)) (Go.Sx.A.f68_3 k b) (Go.Sx.A.f68_3 k b))
def f56_4 (k : Int) (b : Int) : Int := Go.Sx.cnd (!Go.Sx.A.f68_4 k b) (20 : Int) (Go.Sx.cnd (!Go.Sx.A.f17_1 (Go.Sx.A.f68_0 k b) (Go.Sx.A.f68_1 k b) (Go.Sx.A.f68_2 k b) (Go.Sx.A.f68_3 k b) (Go.Sx.A.f68_1 k b) (Go.Sx.A.f68_1 k b) (Go.Sx.A.f68_1 k b)) (11 : Int) (0 : Int))
def f56 : List SV → Option (Tr SV)
  | [.int .i64 k, .int .i64 b] => some (Go.Sx.Tr.leaf (Go.Sx.SV.tup (List.cons (Go.Sx.SV.agg (List.cons (Go.Sx.SV.int (Go.IntKind.i64) (f56_0 k b)) (List.cons (Go.Sx.SV.int (Go.IntKind.u64) (f56_1 k b)) (List.cons (Go.Sx.SV.int (Go.IntKind.i64) (f56_2 k b)) (List.cons (Go.Sx.SV.int (Go.IntKind.i64) (f56_3 k b)) (List.cons (Go.Sx.SV.int (Go.IntKind.i64) (f56_1 k b)) (List.cons (Go.Sx.SV.int (Go.IntKind.i64) (f56_1 k b)) (List.cons (Go.Sx.SV.int (Go.IntKind.u64) (f56_1 k b)) (List.nil))))))))) (List.cons (Go.Sx.SV.int (Go.IntKind.i64) (f56_4 k b)) (List.nil)))))
  | _ => none
theorem s56 : Sound Try.prog th 56 (pureC f56) := pure_auto (us := us56) (nice := nice68) nok68 20 fun args t h => by
  unfold f56 at h
  split at h
  · cases h; kernel_rfl
  · cases h
def nice56 : List (Nat × CF th.R) := (56, pureC f56) :: nice68
theorem nok56 : NiceOk Try.prog th nice56 := ⟨s56, nok68⟩
end Go.Sx.A

namespace Go.Sx.A
open Go Go.Sx Go.Proofs Go.RowKit
def us24 : List Un := [⟨59, [(2, 6)], [6]⟩]
def f24_0 (k : Int) (b : Int) (n : Int) : Prop := (Go.Sx.A.f56_4 k b != (0 : Int)) = Bool.false → Go.Sx.cnd (Decidable.decide (n < (1 : Int))) Bool.true (Decidable.decide (n > (64 : Int))) = Bool.false → (0 : Int) ≤ Go.Sx.A.f31_0 (Go.Sx.A.f56_0 k b) (Go.Sx.A.f56_1 k b) (Go.Sx.A.f56_2 k b) (Go.Sx.A.f56_3 k b) (Go.Sx.A.f56_1 k b) (Go.Sx.A.f56_1 k b) (Go.Sx.A.f56_1 k b)
def f24_1 (k : Int) (b : Int) (n : Int) : Int := Go.Sx.cnd (Go.Sx.A.f56_4 k b != (0 : Int)) (0 : Int) (Go.Sx.cnd (Go.Sx.cnd (Decidable.decide (n < (1 : Int))) Bool.true (Decidable.decide (n > (64 : Int)))) (0 : Int) (Go.IntKind.u64.wrap (Go.IntKind.u64.wrap n * (2 : Int) ^ Min.min (Go.Sx.A.f31_0 (Go.Sx.A.f56_0 k b) (Go.Sx.A.f56_1 k b) (Go.Sx.A.f56_2 k b) (Go.Sx.A.f56_3 k b) (Go.Sx.A.f56_1 k b) (Go.Sx.A.f56_1 k b) (Go.Sx.A.f56_1 k b)).toNat Go.IntKind.u64.bits)))
def f24_2 (k : Int) (b : Int) (n : Int) : Int := Go.Sx.cnd (Go.Sx.A.f56_4 k b != (0 : Int)) (Go.Sx.A.f56_4 k b) (Go.Sx.cnd (Go.Sx.cnd (Decidable.decide (n < (1 : Int))) Bool.true (Decidable.decide (n > (64 : Int)))) (12 : Int) (0 : Int))
def f24 : List SV → Option (Tr SV)
  | [.int .i64 k, .int .i64 b, .int .i64 n] => some (Go.Sx.Tr.need (f24_0 k b n) (Go.Sx.Tr.leaf (Go.Sx.SV.tup (List.cons (Go.Sx.SV.int (Go.IntKind.u64) (f24_1 k b n)) (List.cons (Go.Sx.SV.int (Go.IntKind.i64) (f24_2 k b n)) (List.nil))))))
  | _ => none
theorem s24 : Sound Try.prog th 24 (pureC f24) := pure_auto (us := us24) (nice := nice56) nok56 20 fun args t h => by
  unfold f24 at h
  split at h
  · cases h; kernel_rfl
  · cases h
def nice24 : List (Nat × CF th.R) := (24, pureC f24) :: nice56
theorem nok24 : NiceOk Try.prog th nice24 := ⟨s24, nok56⟩
end Go.Sx.A

namespace Go.Sx.A
open Go Go.Sx Go.Proofs Go.RowKit
def us37 : List Un := [⟨59, [(2, 6)], [6]⟩]
def f37_0 (k : Int) (b : Int) (a : Int) : Int := Go.Sx.cnd (Go.Sx.A.f56_4 k b != (0 : Int)) (0 : Int) (Go.Sx.cnd (!Go.Sx.A.f60_0 a (Go.Sx.A.f31_0 (Go.Sx.A.f56_0 k b) (Go.Sx.A.f56_1 k b) (Go.Sx.A.f56_2 k b) (Go.Sx.A.f56_3 k b) (Go.Sx.A.f56_1 k b) (Go.Sx.A.f56_1 k b) (Go.Sx.A.f56_1 k b))) (0 : Int) (Go.Sx.cnd (!Go.Sx.A.f17_1 (Go.Sx.A.f56_0 k b) a (Go.Sx.A.f56_2 k b) (Go.Sx.A.f56_3 k b) (Go.Sx.A.f56_1 k b) (Go.Sx.A.f56_1 k b) (Go.Sx.A.f56_1 k b)) (0 : Int) (Go.Sx.A.f56_0 k b)))
def f37_1 (k : Int) (b : Int) (a : Int) : Int := Go.Sx.cnd (Go.Sx.A.f56_4 k b != (0 : Int)) (0 : Int) (Go.Sx.cnd (!Go.Sx.A.f60_0 a (Go.Sx.A.f31_0 (Go.Sx.A.f56_0 k b) (Go.Sx.A.f56_1 k b) (Go.Sx.A.f56_2 k b) (Go.Sx.A.f56_3 k b) (Go.Sx.A.f56_1 k b) (Go.Sx.A.f56_1 k b) (Go.Sx.A.f56_1 k b))) (0 : Int) (Go.Sx.cnd (!Go.Sx.A.f17_1 (Go.Sx.A.f56_0 k b) a (Go.Sx.A.f56_2 k b) (Go.Sx.A.f56_3 k b) (Go.Sx.A.f56_1 k b) (Go.Sx.A.f56_1 k b) (Go.Sx.A.f56_1 k b)) (0 : Int) a))
def f37_2 (k : Int) (b : Int) (a : Int) : Int := Go.Sx.cnd (Go.Sx.A.f56_4 k b != (0 : Int)) (0 : Int) (Go.Sx.cnd (!Go.Sx.A.f60_0 a (Go.Sx.A.f31_0 (Go.Sx.A.f56_0 k b) (Go.Sx.A.f56_1 k b) (Go.Sx.A.f56_2 k b) (Go.Sx.A.f56_3 k b) (Go.Sx.A.f56_1 k b) (Go.Sx.A.f56_1 k b) (Go.Sx.A.f56_1 k b))) (0 : Int) (Go.Sx.cnd (!Go.Sx.A.f17_1 (Go.Sx.A.f56_0 k b) a (Go.Sx.A.f56_2 k b) (Go.Sx.A.f56_3 k b) (Go.Sx.A.f56_1 k b) (Go.Sx.A.f56_1 k b) (Go.Sx.A.f56_1 k b)) (0 : Int) (Go.Sx.A.f56_2 k b)))
def f37_3 (k : Int) (b : Int) (a : Int) : Int := Go.Sx.cnd (Go.Sx.A.f56_4 k b != (0 : Int)) (0 : Int) (Go.Sx.cnd (!Go.Sx.A.f60_0 a (Go.Sx.A.f31_0 (Go.Sx.A.f56_0 k b) (Go.Sx.A.f56_1 k b) (Go.Sx.A.f56_2 k b) (Go.Sx.A.f56_3 k b) (Go.Sx.A.f56_1 k b) (Go.Sx.A.f56_1 k b) (Go.Sx.A.f56_1 k b))) (0 : Int) (Go.Sx.cnd (!Go.Sx.A.f17_1 (Go.Sx.A.f56_0 k b) a (Go.Sx.A.f56_2 k b) (Go.Sx.A.f56_3 k b) (Go.Sx.A.f56_1 k b) (Go.Sx.A.f56_1 k b) (Go.Sx.A.f56_1 k b)) (0 : Int) (Go.Sx.A.f56_3 k b)))
def f37_4 (k : Int) (b : Int) (a : Int) : Int := Go.Sx.cnd (Go.Sx.A.f56_4 k b != (0 : Int)) (0 : Int) (Go.Sx.cnd (!Go.Sx.A.f60_0 a (Go.Sx.A.f31_0 (Go.Sx.A.f56_0 k b) (Go.Sx.A.f56_1 k b) (Go.Sx.A.f56_2 k b) (Go.Sx.A.f56_3 k b) (Go.Sx.A.f56_1 k b) (Go.Sx.A.f56_1 k b) (Go.Sx.A.f56_1 k b))) (0 : Int) (Go.Sx.cnd (!Go.Sx.A.f17_1 (Go.Sx.A.f56_0 k b) a (Go.Sx.A.f56_2 k b) (Go.Sx.A.f56_3 k b) (Go.Sx.A.f56_1 k b) (Go.Sx.A.f56_1 k b) (Go.Sx.A.f56_1 k b)) (0 : Int) (Go.Sx.A.f56_1 k b)))
def f37_5 (k : Int) (b : Int) (a : Int) : Int := Go.Sx.cnd (Go.Sx.A.f56_4 k b != (0 : Int)) (Go.Sx.A.f56_4 k b) (Go.Sx.cnd (!Go.Sx.A.f60_0 a (Go.Sx.A.f31_0 (Go.Sx.A.f56_0 k b) (Go.Sx.A.f56_1 k b) (Go.Sx.A.f56_2 k b) (Go.Sx.A.f56_3 k b) (Go.Sx.A.f56_1 k b) (Go.Sx.A.f56_1 k b) (Go.Sx.A.f56_1 k b))) (13 : Int) (Go.Sx.cnd (!Go.Sx.A.f17_1 (Go.Sx.A.f56_0 k b) a (Go.Sx.A.f56_2 k b) (Go.Sx.A.f56_3 k b) (Go.Sx.A.f56_1 k b) (Go.Sx.A.f56_1 k b) (Go.Sx.A.f56_1 k b)) (12 : Int) (0 : Int)))
def f37 : List SV → Option (Tr SV)
  | [.int .i64 k, .int .i64 b, .int .u64 a] => some (Go.Sx.Tr.leaf (Go.Sx.SV.tup (List.cons (Go.Sx.SV.agg (List.cons (Go.Sx.SV.int (Go.IntKind.i64) (f37_0 k b a)) (List.cons (Go.Sx.SV.int (Go.IntKind.u64) (f37_1 k b a)) (List.cons (Go.Sx.SV.int (Go.IntKind.i64) (f37_2 k b a)) (List.cons (Go.Sx.SV.int (Go.IntKind.i64) (f37_3 k b a)) (List.cons (Go.Sx.SV.int (Go.IntKind.i64) (f37_4 k b a)) (List.cons (Go.Sx.SV.int (Go.IntKind.i64) (f37_4 k b a)) (List.cons (Go.Sx.SV.int (Go.IntKind.u64) (f37_4 k b a)) (List.nil))))))))) (List.cons (Go.Sx.SV.int (Go.IntKind.i64) (f37_5 k b a)) (List.nil)))))
  | _ => none
theorem s37 : Sound Try.prog th 37 (pureC f37) := pure_auto (us := us37) (nice := nice24) nok24 20 fun args t h => by
  unfold f37 at h
  split at h
  · cases h; kernel_rfl
  · cases h
def nice37 : List (Nat × CF th.R) := (37, pureC f37) :: nice24
theorem nok37 : NiceOk Try.prog th nice37 := ⟨s37, nok24⟩
end Go.Sx.A

namespace Go.Sx.A
open Go Go.Sx Go.Proofs Go.RowKit
def us39 : List Un := [⟨59, [(2, 6)], [6]⟩]
def f39_0 (k : Int) (b : Int) : Int := Go.Sx.cnd (Go.Sx.A.f56_4 k b != (0 : Int)) (0 : Int) (Go.Sx.A.f31_0 (Go.Sx.A.f56_0 k b) (Go.Sx.A.f56_1 k b) (Go.Sx.A.f56_2 k b) (Go.Sx.A.f56_3 k b) (Go.Sx.A.f56_1 k b) (Go.Sx.A.f56_1 k b) (Go.Sx.A.f56_1 k b))
def f39_1 (k : Int) (b : Int) : Bool := Go.Sx.cnd (Go.Sx.A.f56_4 k b != (0 : Int)) Bool.false Bool.true
def f39 : List SV → Option (Tr SV)
  | [.int .i64 k, .int .i64 b] => some (Go.Sx.Tr.leaf (Go.Sx.SV.tup (List.cons (Go.Sx.SV.int (Go.IntKind.i64) (f39_0 k b)) (List.cons (Go.Sx.SV.bool (f39_1 k b)) (List.nil)))))
  | _ => none
theorem s39 : Sound Try.prog th 39 (pureC f39) := pure_auto (us := us39) (nice := nice37) nok37 20 fun args t h => by
  unfold f39 at h
  split at h
  · cases h; kernel_rfl
  · cases h
def nice39 : List (Nat × CF th.R) := (39, pureC f39) :: nice37
theorem nok39 : NiceOk Try.prog th nice39 := ⟨s39, nok37⟩
end Go.Sx.A

namespace Go.Sx.A
open Go Go.Sx Go.Proofs Go.RowKit
def us23 : List Un := [⟨59, [(2, 6)], [6]⟩]
def f23_0 : Prop := Go.Sx.A.f24_0 (2 : Int) (4 : Int) (1 : Int)
def f23 : List SV → Option (Tr SV)
  | [] => some (Go.Sx.Tr.need (f23_0) (Go.Sx.Tr.leaf (Go.Sx.SV.bool (Bool.true))))
  | _ => none
theorem s23 : Sound Try.prog th 23 (pureC f23) := pure_auto (us := us23) (nice := nice39) nok39 20 fun args t h => by
  unfold f23 at h
  split at h
  · cases h; kernel_rfl
  · cases h
def nice23 : List (Nat × CF th.R) := (23, pureC f23) :: nice39
theorem nok23 : NiceOk Try.prog th nice23 := ⟨s23, nok39⟩
end Go.Sx.A

namespace Go.Sx.A
open Go Go.Sx Go.Proofs Go.RowKit
def us6 : List Un := [⟨59, [(2, 6)], [6]⟩]
def f6_0 (k : Int) (b : Int) (n : Int) : Prop := Bool.false = Bool.false → Go.Sx.A.f24_0 k b n
def f6_1 (k : Int) (b : Int) (n : Int) : Prop := Bool.false = Bool.false → (Go.Sx.A.f25_0 k b == (-1 : Int)) = Bool.false → (Go.Sx.A.f25_0 k b == (-2 : Int)) = Bool.false → Go.Sx.cnd (Decidable.decide (n < (1 : Int))) Bool.true (Decidable.decide (n > (64 : Int))) = Bool.false → Go.Sx.cnd (Go.Sx.A.f24_2 k b n == (0 : Int)) Bool.true Bool.false = Bool.true → Go.Sx.A.f25_0 k b ≤ (4611686018427387904 : Int)
def f6_2 (k : Int) (b : Int) (n : Int) : Bool := Go.Sx.cnd (Go.Sx.A.f25_0 k b == (-1 : Int)) (Go.Sx.cnd (Go.Sx.A.f24_2 k b n == (20 : Int)) (Go.Sx.A.f24_1 k b n == (0 : Int)) Bool.false) (Go.Sx.cnd (Go.Sx.A.f25_0 k b == (-2 : Int)) (Go.Sx.cnd (Go.Sx.A.f24_2 k b n == (11 : Int)) (Go.Sx.A.f24_1 k b n == (0 : Int)) Bool.false) (Go.Sx.cnd (Go.Sx.cnd (Decidable.decide (n < (1 : Int))) Bool.true (Decidable.decide (n > (64 : Int)))) (Go.Sx.cnd (Go.Sx.A.f24_2 k b n == (12 : Int)) (Go.Sx.A.f24_1 k b n == (0 : Int)) Bool.false) (Go.Sx.cnd (Go.Sx.A.f24_2 k b n == (0 : Int)) (Go.Sx.A.f24_1 k b n == Go.IntKind.u64.wrap (Go.IntKind.u64.wrap n * Go.Sx.A.p26 (Go.Sx.A.f25_0 k b).toNat)) Bool.false)))
def f6 : List SV → Option (Tr SV)
  | [.int .i64 k, .int .i64 b, .int .i64 n] => some (Go.Sx.Tr.need (Go.Sx.A.f23_0) (Go.Sx.Tr.need (f6_0 k b n) (Go.Sx.Tr.need (f6_1 k b n) (Go.Sx.Tr.leaf (Go.Sx.SV.bool (f6_2 k b n))))))
  | _ => none
theorem s6 : Sound Try.prog th 6 (pureC f6) := pure_auto (us := us6) (nice := nice23) nok23 20 fun args t h => by
  unfold f6 at h
  split at h
  · cases h; kernel_rfl
  · cases h
def nice6 : List (Nat × CF th.R) := (6, pureC f6) :: nice23
theorem nok6 : NiceOk Try.prog th nice6 := ⟨s6, nok23⟩
end Go.Sx.A

namespace Go.Sx.A
open Go Go.Sx Go.Proofs Go.RowKit
def us10 : List Un := [⟨59, [(2, 6)], [6]⟩]
def f10_0 (k : Int) (b : Int) (a : Int) : Bool := Go.Sx.cnd (Go.Sx.cnd (Go.Sx.cnd (Go.Sx.cnd (Go.Sx.cnd (!(Go.Sx.A.f37_0 k b a == Go.Sx.A.f38_2 k b a && (Go.Sx.A.f37_1 k b a == Go.Sx.A.f38_3 k b a && (Go.Sx.A.f37_2 k b a == Go.Sx.A.f38_4 k b a && (Go.Sx.A.f37_3 k b a == Go.Sx.A.f38_5 k b a && (Go.Sx.A.f37_4 k b a == Go.Sx.A.f38_6 k b a && (Go.Sx.A.f37_4 k b a == Go.Sx.A.f38_6 k b a && (Go.Sx.A.f37_4 k b a == Go.Sx.A.f38_6 k b a && Bool.true)))))))) Bool.true (Go.Sx.A.f37_5 k b a != Go.Sx.A.f38_7 k b a)) Bool.true !Go.Sx.A.f39_1 k b == Decidable.decide (Go.Sx.A.f25_0 k b > (0 : Int))) Bool.true (Go.Sx.cnd (Go.Sx.A.f39_1 k b) (Go.Sx.A.f39_0 k b != Go.Sx.A.f25_0 k b) Bool.false)) Bool.true (Go.Sx.cnd (!Go.Sx.A.f39_1 k b) (Go.Sx.A.f39_0 k b != (0 : Int)) Bool.false)) Bool.false (Go.Sx.cnd (Go.Sx.A.f37_5 k b a != (0 : Int)) Bool.true (Go.Sx.cnd (Go.Sx.cnd (Go.Sx.cnd (Go.Sx.A.f17_1 (Go.Sx.A.f37_0 k b a) (Go.Sx.A.f37_1 k b a) (Go.Sx.A.f37_2 k b a) (Go.Sx.A.f37_3 k b a) (Go.Sx.A.f37_4 k b a) (Go.Sx.A.f37_4 k b a) (Go.Sx.A.f37_4 k b a)) (Go.Sx.A.f37_4 k b a == (0 : Int)) Bool.false) (Go.Sx.A.f31_0 (Go.Sx.A.f37_0 k b a) (Go.Sx.A.f37_1 k b a) (Go.Sx.A.f37_2 k b a) (Go.Sx.A.f37_3 k b a) (Go.Sx.A.f37_4 k b a) (Go.Sx.A.f37_4 k b a) (Go.Sx.A.f37_4 k b a) == Go.Sx.A.f39_0 k b) Bool.false) (Go.Sx.cnd (Go.Sx.cnd (Go.Sx.A.f37_0 k b a == (3 : Int)) Bool.true (Go.Sx.A.f37_0 k b a == (9 : Int))) Bool.true (Go.Sx.A.f37_3 k b a == (0 : Int))) Bool.false))
def f10 : List SV → Option (Tr SV)
  | [.int .i64 k, .int .i64 b, .int .u64 a] => some (Go.Sx.Tr.need (Go.Sx.A.f23_0) (Go.Sx.Tr.leaf (Go.Sx.SV.bool (f10_0 k b a))))
  | _ => none
theorem s10 : Sound Try.prog th 10 (pureC f10) := pure_auto (us := us10) (nice := nice6) nok6 20 fun args t h => by
  unfold f10 at h
  split at h
  · cases h; kernel_rfl
  · cases h
def nice10 : List (Nat × CF th.R) := (10, pureC f10) :: nice6
theorem nok10 : NiceOk Try.prog th nice10 := ⟨s10, nok6⟩
end Go.Sx.A

namespace Go.Sx.A
open Go Go.Sx Go.Proofs Go.RowKit
def us54 : List Un := [⟨59, [(2, 6)], [6]⟩]
def sel54 (f : Nat → Bool) (n : Nat) : Bool := ((List.range 64).map f).getD n false
def fill54 (f : Nat → Bool) (lo : Int) : Nat → Nat → Bool
  | 0 => fun _ => false
  | n + 1 => fun j => cnd (Nat.beq (cnt n).toNat j) (sel54 f (IntKind.i64.wrap (lo + cnt n)).toNat) (fill54 f lo n j)
def get54 (f : Nat → Bool) (lo wi : Int) (j : Nat) : Bool := if j < wi.toNat then f (lo.toNat + j) else false
noncomputable def E54 : St th.R → Out th := evCode th Try.prog (fun _ => none) (noLoops th (fun _ => none) (fun _ => false)) (lpAt Try.prog 54 0)
def i54 (w lo wi : Int) (f : Nat → Bool) (d ws : List Nat) (i : Nat) : St th.R :=
  ⟨[some (.int .u64 w), some (.int .i64 lo), some (.int .i64 wi), none, none, none, some (.int .u64 0), some (.ptr 0 0), some (.ptr 1 0), some (.int .i64 (cnt i)), none, none, none, none, none, none, none, none, none, none, none, none, none, none, none, none], [.cells 104 (bl 64 f), .cells 104 (bl 64 (fill54 f lo i))], d, ws⟩
def o54 (lo wi : Int) (f : Nat → Bool) (d ws : List Nat) : St th.R :=
  ⟨[none, none, none, none, none, none, none, none, some (.ptr 1 0), none, none, none, none, none, none, none, none, none, none, none, none, none, none, none, none, none], [.cells 104 (bl 64 f), .cells 104 (bl 64 (get54 f lo wi))], List.range 2 ++ d, List.range 26 ++ ws⟩
def L54 (st : St th.R) : Out th := match st with
  | ⟨[some (.int .u64 w), some (.int .i64 lo), some (.int .i64 wi), none, none, none, some (.int .u64 z), some (.ptr 0 0), some (.ptr 1 0), some (.int .i64 i), t10, t11, none, none, none, none, none, none, none, none, none, none, none, none, none, none], [.cells 104 l, .cells 104 m], d, ws⟩ =>
    some (.need ((z = 0 ∧ i = 0 ∧ l = bl 64 (fOf72 l) ∧ m = bl 64 (fun _ => false)) ∧ 0 ≤ lo ∧ 0 ≤ wi ∧ lo + wi ≤ 64) (.leaf (.exit 0, o54 lo wi (fOf72 l) d ws)))
  | _ => none
theorem fill54_eq (f : Nat → Bool) {lo wi : Int} (h0 : 0 ≤ lo) (h1 : lo + wi ≤ 64) : ∀ (n j : Nat), (n : Int) ≤ wi → fill54 f lo n j = if j < n then f (lo.toNat + j) else false
  | 0, j, _ => by simp [fill54]
  | n + 1, j, h => by
    show cnd (Nat.beq (cnt n).toNat j) (sel54 f (IntKind.i64.wrap (lo + cnt n)).toNat) (fill54 f lo n j) = _
    rw [fill54_eq f h0 h1 n j (by omega), cnt_eq (by omega), wrap_i64 (by omega) (by omega)]
    by_cases e : n = j
    · subst e
      have e2 : (lo + (n : Int)).toNat = lo.toNat + n := by omega
      have e3 : lo.toNat + n < 64 := by omega
      simp [cnd, sel54, e2, List.getD_eq_getElem?_getD, e3]
    · have : Nat.beq ((n : Int).toNat) j = false := by
        cases hb : Nat.beq ((n : Int).toNat) j with
        | false => rfl
        | true => have := Nat.eq_of_beq_eq_true hb; simp at this; exact absurd this e
      rw [this]
      simp only [cnd]
      by_cases h1 : j < n
      · have : j < n + 1 := by omega
        simp [h1, this]
      · have : ¬ j < n + 1 := by omega
        simp [h1, this]
theorem L54_sound : CodeSound th Try.prog (.loop (lpAt Try.prog 54 0)) L54 := by
  intro st t h hok
  unfold L54 at h
  split at h
  · rename_i w lo wi z i t10 t11 l m d ws
    cases h
    obtain ⟨⟨⟨rfl, rfl, hl, rfl⟩, hlo, hwi, hlw⟩, _⟩ := hok
    refine ⟨grow_mk (Nat.le_of_eq (by kernel_rfl)) (by kernel_rfl) (by kernel_rfl) (by kernel_rfl), fun K w0 ρ a' wd Q hr hQ => ?_⟩
    generalize fOf72 l = f at hl hQ
    subst hl
    obtain ⟨ρ1, hp1, hr1⟩ := Wk.blank (T := th) (s := ⟨[some (.int .u64 w), some (.int .i64 lo), some (.int .i64 wi), none, none, none, some (.int .u64 0), some (.ptr 0 0), some (.ptr 1 0), some (.int .i64 0), t10, t11, none, none, none, none, none, none, none, none, none, none, none, none, none, none], [.cells 104 (bl 64 f), .cells 104 (bl 64 (fun _ => false))], d, ws⟩) (s' := i54 w lo wi f d ws 0) [10, 11] (by kernel_rfl) (by kernel_rfl) K w0 ρ a' wd hr
    refine loop_rule (show CodeSound th Try.prog (lpAt Try.prog 54 0) E54 from plain_body (tbl := fun _ => none) (fun _ _ e => by cases e) _) (N := wi.toNat) (I := i54 w lo wi f d ws) (F := o54 lo wi f d ws) (ex := .exit 0) (fun e => by cases e) ?_ ?_ hr1 (fun ρ' a w' hp hr' => hQ ρ' a w' (hp1.trans hp) hr')
    · intro i hi
      have hc := cnt_eq (n := i) (by omega)
      have hwr : IntKind.i64.wrap (lo + cnt i) = lo + i := by rw [hc, wrap_i64 (by omega) (by omega)]
      refine goes_on (c := cnd (decide (cnt i < wi)) false true) [12, 13, 14, 15, 16, 17, 18, 19, 20, 21, 22, 23] (by kernel_rfl) ?_ ?_ (by kernel_rfl) (by kernel_rfl) (by kernel_rfl)
      · have h1 : decide (cnt i < wi) = true := by rw [hc]; simp; omega
        rw [h1]; rfl
      · have e : (rt (ob (E54 (i54 w lo wi f d ws i)))).ok = ((0 ≤ IntKind.i64.wrap (lo + cnt i) ∧ IntKind.i64.wrap (lo + cnt i) < 64) ∧ (IntKind.i64.wrap (lo + cnt i)).toNat < (List.drop 0 (bl 64 f)).length ∧ (0 ≤ cnt i ∧ cnt i < 64) ∧ (cnt i).toNat < (bl 64 (fill54 f lo i)).length ∧ True) := by kernel_rfl
        rw [e, hwr, hc]
        simp [bl]
        omega
    · generalize hN : wi.toNat = N
      have hc := cnt_eq (n := N) (by omega)
      have hf : bl 64 (fill54 f lo N) = bl 64 (get54 f lo wi) := bl_congr fun j hj => by rw [fill54_eq f hlo hlw N j (by omega)]; unfold get54; rw [hN]
      refine goes_out (c := cnd (decide (cnt N < wi)) false true) [0, 1, 2, 6, 7, 9, 12, 13, 14] (by kernel_rfl) ?_ ?_ (by kernel_rfl) (by kernel_rfl) ?_
      · have : decide (cnt N < wi) = false := by rw [hc]; simp; omega
        rw [this]; rfl
      · have e : (lf (ob (E54 (i54 w lo wi f d ws N)))).ok = True := by kernel_rfl
        rw [e]; trivial
      · have e : (lf (ob (E54 (i54 w lo wi f d ws N)))).get.2.heap = [.cells 104 (bl 64 f), .cells 104 (bl 64 (fill54 f lo N))] := by kernel_rfl
        exact (congrArg (fun x => [HO.cells 104 (bl 64 f), HO.cells 104 x]) hf.symm).trans e.symm
  · cases h
def getI (w lo wi : Int) : Int := wordI (get54 (bitI w) lo wi)
def f54 : List SV → Option (Tr SV)
  | [.int .u64 w, .int .i64 lo, .int .i64 wi] => some (.need (0 ≤ lo ∧ 0 ≤ wi ∧ lo + wi ≤ 64) (.leaf (.int .u64 (getI w lo wi))))
  | _ => none
theorem s54 : Sound Try.prog th 54 (pureC f54) := pure_fn (tbl := auto th Try.prog nice10 us54 20) (H := oneLoop 4 L54) (auto_sound nok10 20)
  (oneLoop_ok (by kernel_rfl) (by kernel_rfl) L54_sound) fun args t h hok => by
  unfold f54 at h
  split at h
  · rename_i w lo wi
    cases h
    obtain ⟨⟨h1, h2, h3⟩, _⟩ := hok
    refine ⟨.need (((0 : Int) = 0 ∧ (0 : Int) = 0 ∧ bl 64 (bitI w) = bl 64 (fOf72 (bl 64 (bitI w))) ∧ bl 64 (fun _ => false) = bl 64 (fun _ => false)) ∧ 0 ≤ lo ∧ 0 ≤ wi ∧ lo + wi ≤ 64) (.leaf (.int .u64 (wordI (fun j => ((List.range 64).map (get54 (fOf72 (bl 64 (bitI w))) lo wi)).getD j false)), [], [])), by kernel_rfl, ⟨⟨⟨rfl, rfl, ?_, rfl⟩, h1, h2, h3⟩, trivial⟩, ?_⟩
    · exact bl_congr fun j hj => (fOf72_bl hj).symm
    · have : wordI (fun j => ((List.range 64).map (get54 (fOf72 (bl 64 (bitI w))) lo wi)).getD j false) = getI w lo wi := by
        unfold getI
        refine wordI_congr fun j hj => ?_
        simp only [List.getD_eq_getElem?_getD, List.getElem?_map, List.getElem?_range hj, Option.map_some, Option.getD_some]
        unfold get54
        split
        · rw [fOf72_bl (by omega)]
        · rfl
      exact congrArg (fun x => (SV.int .u64 x, ([] : List (HO th.R)), ([] : List Nat))) this
  · cases h
def nice54 : List (Nat × CF th.R) := (54, pureC f54) :: nice10
theorem nok54 : NiceOk Try.prog th nice54 := ⟨s54, nok10⟩
end Go.Sx.A

namespace Go.Sx.A
open Go Go.Sx Go.Proofs Go.RowKit
def us62 : List Un := [⟨59, [(2, 6)], [6]⟩]
def f62_0 (l : Int) (d : Int) : Bool := Go.Sx.cnd (Go.Sx.cnd (Go.Sx.cnd (Decidable.decide (l ≥ (0 : Int))) (Decidable.decide (l < (64 : Int))) Bool.false) (Decidable.decide (d ≥ (1 : Int))) Bool.false) (Decidable.decide (d ≤ Go.IntKind.i64.wrap ((64 : Int) - l))) Bool.false
def f62 : List SV → Option (Tr SV)
  | [.agg [.int .i64 l, .int .i64 d]] => some (Go.Sx.Tr.leaf (Go.Sx.SV.bool (f62_0 l d)))
  | _ => none
theorem s62 : Sound Try.prog th 62 (pureC f62) := pure_auto (us := us62) (nice := nice54) nok54 20 fun args t h => by
  unfold f62 at h
  split at h
  · cases h; kernel_rfl
  · cases h
def nice62 : List (Nat × CF th.R) := (62, pureC f62) :: nice54
theorem nok62 : NiceOk Try.prog th nice62 := ⟨s62, nok54⟩
end Go.Sx.A

namespace Go.Sx.A
open Go Go.Sx Go.Proofs Go.RowKit
def us63 : List Un := [⟨59, [(2, 6)], [6]⟩]
def f63_0 (l : Int) (d : Int) : Prop := (!Go.Sx.A.f62_0 l d) = Bool.false → Bool.true = Bool.true → (0 : Int) ≤ l
def f63_1 (l : Int) (d : Int) : Int := Go.Sx.cnd (!Go.Sx.A.f62_0 l d) (0 : Int) (Go.IntKind.u64.wrap (Go.Sx.A.f58_1 d * (2 : Int) ^ Min.min l.toNat Go.IntKind.u64.bits))
theorem n63_0 (l : Int) (d : Int) : f63_0 l d := by
  simp only [f63_0, f62_0, cnd_eq]
  grind (splits := 40)
def f63 : List SV → Option (Tr SV)
  | [.agg [.int .i64 l, .int .i64 d]] => some (Go.Sx.Tr.leaf (Go.Sx.SV.int (Go.IntKind.u64) (f63_1 l d)))
  | _ => none
theorem s63 : Sound Try.prog th 63 (pureC f63) := pure_auto2 (us := us63) (nice := nice62) nok62 20 fun args t h => by
  unfold f63 at h
  split at h
  · rename_i l d
    cases h
    refine ⟨(Go.Sx.Tr.need (f63_0 l d) (Go.Sx.Tr.leaf (Go.Sx.SV.int (Go.IntKind.u64) (f63_1 l d)))), by kernel_rfl, fun ok => ?_, rfl⟩
    first
    | (simp only [Tr.ok, n63_0, true_and, and_true, forall_const, implies_true]; done)
    | (simp only [Tr.ok, n63_0, true_and, and_true, forall_const, implies_true]; done)
    | (simpa only [Tr.ok, n63_0, true_and, and_true, forall_const, implies_true] using ok; done)
    | (simp only [Tr.ok, n63_0, true_and, and_true, forall_const, implies_true] at ok ⊢; grind)
  · cases h
def nice63 : List (Nat × CF th.R) := (63, pureC f63) :: nice62
theorem nok63 : NiceOk Try.prog th nice63 := ⟨s63, nok62⟩
end Go.Sx.A

namespace Go.Sx.A
open Go Go.Sx Go.Proofs Go.RowKit
def us53 : List Un := [⟨59, [(2, 6)], [6]⟩]
def f53_0 (l : Int) (d : Int) (w : Int) : Prop := (!Go.Sx.A.f62_0 l d) = Bool.false → Bool.true = Bool.true → (0 : Int) ≤ l
def f53_1 (l : Int) (d : Int) (w : Int) : Int := Go.Sx.cnd (!Go.Sx.A.f62_0 l d) (0 : Int) (Go.bits Go.BinOp.and Go.IntKind.u64 (w.fdiv ((2 : Int) ^ Min.min l.toNat Go.IntKind.u64.bits)) (Go.Sx.A.f58_1 d))
theorem n53_0 (l : Int) (d : Int) (w : Int) : f53_0 l d w := by
  simp only [f53_0, f62_0, cnd_eq]
  grind (splits := 40)
def f53 : List SV → Option (Tr SV)
  | [.agg [.int .i64 l, .int .i64 d], .int .u64 w] => some (Go.Sx.Tr.leaf (Go.Sx.SV.int (Go.IntKind.u64) (f53_1 l d w)))
  | _ => none
theorem s53 : Sound Try.prog th 53 (pureC f53) := pure_auto2 (us := us53) (nice := nice63) nok63 20 fun args t h => by
  unfold f53 at h
  split at h
  · rename_i l d w
    cases h
    refine ⟨(Go.Sx.Tr.need (f53_0 l d w) (Go.Sx.Tr.leaf (Go.Sx.SV.int (Go.IntKind.u64) (f53_1 l d w)))), by kernel_rfl, fun ok => ?_, rfl⟩
    first
    | (simp only [Tr.ok, n53_0, true_and, and_true, forall_const, implies_true]; done)
    | (simp only [Tr.ok, n53_0, true_and, and_true, forall_const, implies_true]; done)
    | (simpa only [Tr.ok, n53_0, true_and, and_true, forall_const, implies_true] using ok; done)
    | (simp only [Tr.ok, n53_0, true_and, and_true, forall_const, implies_true] at ok ⊢; grind)
  · cases h
def nice53 : List (Nat × CF th.R) := (53, pureC f53) :: nice63
theorem nok53 : NiceOk Try.prog th nice53 := ⟨s53, nok63⟩
end Go.Sx.A

namespace Go.Sx.A
open Go Go.Sx Go.Proofs Go.RowKit
def us45 : List Un := [⟨59, [(2, 6)], [6]⟩]
def f45_0 (l : Int) (d : Int) (w : Int) (v : Int) : Prop := (!Go.Sx.A.f62_0 l d) = Bool.false → (Go.bits Go.BinOp.andNot Go.IntKind.u64 v (Go.Sx.A.f58_1 d) != (0 : Int)) = Bool.false → Bool.true = Bool.true → (0 : Int) ≤ l
def f45_1 (l : Int) (d : Int) (w : Int) (v : Int) : Int := Go.Sx.cnd (!Go.Sx.A.f62_0 l d) (0 : Int) (Go.Sx.cnd (Go.bits Go.BinOp.andNot Go.IntKind.u64 v (Go.Sx.A.f58_1 d) != (0 : Int)) (0 : Int) (Go.bits Go.BinOp.or Go.IntKind.u64 (Go.bits Go.BinOp.andNot Go.IntKind.u64 w (Go.Sx.A.f63_1 l d)) (Go.IntKind.u64.wrap (v * (2 : Int) ^ Min.min l.toNat Go.IntKind.u64.bits))))
def f45_2 (l : Int) (d : Int) (w : Int) (v : Int) : Int := Go.Sx.cnd (!Go.Sx.A.f62_0 l d) (10 : Int) (Go.Sx.cnd (Go.bits Go.BinOp.andNot Go.IntKind.u64 v (Go.Sx.A.f58_1 d) != (0 : Int)) (11 : Int) (0 : Int))
theorem n45_0 (l : Int) (d : Int) (w : Int) (v : Int) : f45_0 l d w v := by
  simp only [f45_0, f62_0, cnd_eq]
  grind (splits := 40)
def f45 : List SV → Option (Tr SV)
  | [.agg [.int .i64 l, .int .i64 d], .int .u64 w, .int .u64 v] => some (Go.Sx.Tr.leaf (Go.Sx.SV.tup (List.cons (Go.Sx.SV.int (Go.IntKind.u64) (f45_1 l d w v)) (List.cons (Go.Sx.SV.int (Go.IntKind.i64) (f45_2 l d w v)) (List.nil)))))
  | _ => none
theorem s45 : Sound Try.prog th 45 (pureC f45) := pure_auto2 (us := us45) (nice := nice53) nok53 20 fun args t h => by
  unfold f45 at h
  split at h
  · rename_i l d w v
    cases h
    refine ⟨(Go.Sx.Tr.need (f45_0 l d w v) (Go.Sx.Tr.leaf (Go.Sx.SV.tup (List.cons (Go.Sx.SV.int (Go.IntKind.u64) (f45_1 l d w v)) (List.cons (Go.Sx.SV.int (Go.IntKind.i64) (f45_2 l d w v)) (List.nil)))))), by kernel_rfl, fun ok => ?_, rfl⟩
    first
    | (simp only [Tr.ok, n45_0, true_and, and_true, forall_const, implies_true]; done)
    | (simp only [Tr.ok, n45_0, true_and, and_true, forall_const, implies_true]; done)
    | (simpa only [Tr.ok, n45_0, true_and, and_true, forall_const, implies_true] using ok; done)
    | (simp only [Tr.ok, n45_0, true_and, and_true, forall_const, implies_true] at ok ⊢; grind)
  · cases h
def nice45 : List (Nat × CF th.R) := (45, pureC f45) :: nice53
theorem nok45 : NiceOk Try.prog th nice45 := ⟨s45, nok53⟩
end Go.Sx.A

namespace Go.Sx.A
open Go Go.Sx Go.Proofs Go.RowKit
def us15 : List Un := [⟨59, [(2, 6)], [6]⟩, ⟨15, [(5, 7)], [15]⟩]
def f15_0 (k : Int) (a : Int) (b : Int) (r : Int) (g : Int) (s : Int) (m : Int) : Prop := (!Go.Sx.A.f17_1 k a b r g s m) = Bool.false → (0 : Int) ≤ (5 : Int)
def f15_1 (k : Int) (a : Int) (b : Int) (r : Int) (g : Int) (s : Int) (m : Int) : Prop := (!Go.Sx.A.f17_1 k a b r g s m) = Bool.false → ∀ (i : Nat), Go.Sx.scpL (0 : Nat) (Go.Sx.rowEl (6 : Nat) (nat_lit 2 + (1 : Nat)) (Go.Sx.setMany (Go.Sx.setMany (Go.Sx.setMany (Go.Sx.setMany (Go.Sx.setMany (Go.Sx.setMany (List.map (fun i => [Go.Sx.SV.int Go.IntKind.i64 (0 : Int), Go.Sx.SV.int Go.IntKind.i64 (0 : Int), Go.Sx.SV.int Go.IntKind.u64 (0 : Int)].getD (i % (3 : Nat)) Inhabited.default) (List.range ((6 : Nat) * (nat_lit 2 + (1 : Nat))))) ((0 : Nat) * (nat_lit 2 + (1 : Nat))) (Go.Sx.SV.agg (Go.Sx.setMany (Go.Sx.setMany [Go.Sx.SV.int Go.IntKind.i64 (0 : Int), Go.Sx.SV.int Go.IntKind.i64 (0 : Int), Go.Sx.SV.int Go.IntKind.u64 (0 : Int)] (Go.Field.mk "Field" (87 : Nat) (0 : Nat) Bool.true "" "" (0 : Nat)).offset (Go.Sx.SV.agg (Go.Sx.setMany (Go.Sx.setMany [Go.Sx.SV.int Go.IntKind.i64 (0 : Int), Go.Sx.SV.int Go.IntKind.i64 (0 : Int)] (Go.Field.mk "Low" (3 : Nat) (0 : Nat) Bool.false "" "" (0 : Nat)).offset (Go.Sx.SV.int Go.IntKind.i64 (0 : Int)).cells) (Go.Field.mk "Wide" (3 : Nat) (1 : Nat) Bool.false "" "" (8 : Nat)).offset (Go.Sx.SV.int Go.IntKind.i64 (4 : Int)).cells)).cells) (Go.Field.mk "v" (22 : Nat) (2 : Nat) Bool.false "" "portreeve/cap" (16 : Nat)).offset (Go.Sx.SV.int Go.IntKind.u64 (Go.IntKind.u64.wrap k)).cells)).cells) ((1 : Nat) * (nat_lit 2 + (1 : Nat))) (Go.Sx.SV.agg (Go.Sx.setMany (Go.Sx.setMany [Go.Sx.SV.int Go.IntKind.i64 (0 : Int), Go.Sx.SV.int Go.IntKind.i64 (0 : Int), Go.Sx.SV.int Go.IntKind.u64 (0 : Int)] (Go.Field.mk "Field" (87 : Nat) (0 : Nat) Bool.true "" "" (0 : Nat)).offset (Go.Sx.SV.agg (Go.Sx.setMany (Go.Sx.setMany [Go.Sx.SV.int Go.IntKind.i64 (0 : Int), Go.Sx.SV.int Go.IntKind.i64 (0 : Int)] (Go.Field.mk "Low" (3 : Nat) (0 : Nat) Bool.false "" "" (0 : Nat)).offset (Go.Sx.SV.int Go.IntKind.i64 (4 : Int)).cells) (Go.Field.mk "Wide" (3 : Nat) (1 : Nat) Bool.false "" "" (8 : Nat)).offset (Go.Sx.SV.int Go.IntKind.i64 (6 : Int)).cells)).cells) (Go.Field.mk "v" (22 : Nat) (2 : Nat) Bool.false "" "portreeve/cap" (16 : Nat)).offset (Go.Sx.SV.int Go.IntKind.u64 (Go.IntKind.u64.wrap b)).cells)).cells) ((2 : Nat) * (nat_lit 2 + (1 : Nat))) (Go.Sx.SV.agg (Go.Sx.setMany (Go.Sx.setMany [Go.Sx.SV.int Go.IntKind.i64 (0 : Int), Go.Sx.SV.int Go.IntKind.i64 (0 : Int), Go.Sx.SV.int Go.IntKind.u64 (0 : Int)] (Go.Field.mk "Field" (87 : Nat) (0 : Nat) Bool.true "" "" (0 : Nat)).offset (Go.Sx.SV.agg (Go.Sx.setMany (Go.Sx.setMany [Go.Sx.SV.int Go.IntKind.i64 (0 : Int), Go.Sx.SV.int Go.IntKind.i64 (0 : Int)] (Go.Field.mk "Low" (3 : Nat) (0 : Nat) Bool.false "" "" (0 : Nat)).offset (Go.Sx.SV.int Go.IntKind.i64 (10 : Int)).cells) (Go.Field.mk "Wide" (3 : Nat) (1 : Nat) Bool.false "" "" (8 : Nat)).offset (Go.Sx.SV.int Go.IntKind.i64 (3 : Int)).cells)).cells) (Go.Field.mk "v" (22 : Nat) (2 : Nat) Bool.false "" "portreeve/cap" (16 : Nat)).offset (Go.Sx.SV.int Go.IntKind.u64 (Go.IntKind.u64.wrap r)).cells)).cells) ((3 : Nat) * (nat_lit 2 + (1 : Nat))) (Go.Sx.SV.agg (Go.Sx.setMany (Go.Sx.setMany [Go.Sx.SV.int Go.IntKind.i64 (0 : Int), Go.Sx.SV.int Go.IntKind.i64 (0 : Int), Go.Sx.SV.int Go.IntKind.u64 (0 : Int)] (Go.Field.mk "Field" (87 : Nat) (0 : Nat) Bool.true "" "" (0 : Nat)).offset (Go.Sx.SV.agg (Go.Sx.setMany (Go.Sx.setMany [Go.Sx.SV.int Go.IntKind.i64 (0 : Int), Go.Sx.SV.int Go.IntKind.i64 (0 : Int)] (Go.Field.mk "Low" (3 : Nat) (0 : Nat) Bool.false "" "" (0 : Nat)).offset (Go.Sx.SV.int Go.IntKind.i64 (13 : Int)).cells) (Go.Field.mk "Wide" (3 : Nat) (1 : Nat) Bool.false "" "" (8 : Nat)).offset (Go.Sx.SV.int Go.IntKind.i64 (6 : Int)).cells)).cells) (Go.Field.mk "v" (22 : Nat) (2 : Nat) Bool.false "" "portreeve/cap" (16 : Nat)).offset (Go.Sx.SV.int Go.IntKind.u64 (Go.IntKind.u64.wrap g)).cells)).cells) ((4 : Nat) * (nat_lit 2 + (1 : Nat))) (Go.Sx.SV.agg (Go.Sx.setMany (Go.Sx.setMany [Go.Sx.SV.int Go.IntKind.i64 (0 : Int), Go.Sx.SV.int Go.IntKind.i64 (0 : Int), Go.Sx.SV.int Go.IntKind.u64 (0 : Int)] (Go.Field.mk "Field" (87 : Nat) (0 : Nat) Bool.true "" "" (0 : Nat)).offset (Go.Sx.SV.agg (Go.Sx.setMany (Go.Sx.setMany [Go.Sx.SV.int Go.IntKind.i64 (0 : Int), Go.Sx.SV.int Go.IntKind.i64 (0 : Int)] (Go.Field.mk "Low" (3 : Nat) (0 : Nat) Bool.false "" "" (0 : Nat)).offset (Go.Sx.SV.int Go.IntKind.i64 (19 : Int)).cells) (Go.Field.mk "Wide" (3 : Nat) (1 : Nat) Bool.false "" "" (8 : Nat)).offset (Go.Sx.SV.int Go.IntKind.i64 (16 : Int)).cells)).cells) (Go.Field.mk "v" (22 : Nat) (2 : Nat) Bool.false "" "portreeve/cap" (16 : Nat)).offset (Go.Sx.SV.int Go.IntKind.u64 (Go.IntKind.u64.wrap s)).cells)).cells) ((5 : Nat) * (nat_lit 2 + (1 : Nat))) (Go.Sx.SV.agg (Go.Sx.setMany (Go.Sx.setMany [Go.Sx.SV.int Go.IntKind.i64 (0 : Int), Go.Sx.SV.int Go.IntKind.i64 (0 : Int), Go.Sx.SV.int Go.IntKind.u64 (0 : Int)] (Go.Field.mk "Field" (87 : Nat) (0 : Nat) Bool.true "" "" (0 : Nat)).offset (Go.Sx.SV.agg (Go.Sx.setMany (Go.Sx.setMany [Go.Sx.SV.int Go.IntKind.i64 (0 : Int), Go.Sx.SV.int Go.IntKind.i64 (0 : Int)] (Go.Field.mk "Low" (3 : Nat) (0 : Nat) Bool.false "" "" (0 : Nat)).offset (Go.Sx.SV.int Go.IntKind.i64 (35 : Int)).cells) (Go.Field.mk "Wide" (3 : Nat) (1 : Nat) Bool.false "" "" (8 : Nat)).offset (Go.Sx.SV.int Go.IntKind.i64 (27 : Int)).cells)).cells) (Go.Field.mk "v" (22 : Nat) (2 : Nat) Bool.false "" "portreeve/cap" (16 : Nat)).offset (Go.Sx.SV.int Go.IntKind.u64 (a.fdiv (32 : Int))).cells)).cells) i) = Bool.true
def f15_2 (k : Int) (a : Int) (b : Int) (r : Int) (g : Int) (s : Int) (m : Int) : Prop := (!Go.Sx.A.f17_1 k a b r g s m) = Bool.false → (0 : Int) ≤ (0 : Int) ∧ (0 : Int) < (6 : Int)
def f15_3 (k : Int) (a : Int) (b : Int) (r : Int) (g : Int) (s : Int) (m : Int) : Prop := (!Go.Sx.A.f17_1 k a b r g s m) = Bool.false → (0 : Nat) + Int.toNat (0 : Int) < (6 : Nat)
def f15_4 (k : Int) (a : Int) (b : Int) (r : Int) (g : Int) (s : Int) (m : Int) : Prop := (!Go.Sx.A.f17_1 k a b r g s m) = Bool.false → (0 : Int) ≤ (1 : Int) ∧ (1 : Int) < (6 : Int)
def f15_5 (k : Int) (a : Int) (b : Int) (r : Int) (g : Int) (s : Int) (m : Int) : Prop := (!Go.Sx.A.f17_1 k a b r g s m) = Bool.false → (0 : Nat) + Int.toNat (1 : Int) < (6 : Nat)
def f15_6 (k : Int) (a : Int) (b : Int) (r : Int) (g : Int) (s : Int) (m : Int) : Prop := (!Go.Sx.A.f17_1 k a b r g s m) = Bool.false → (0 : Int) ≤ (2 : Int) ∧ (2 : Int) < (6 : Int)
def f15_7 (k : Int) (a : Int) (b : Int) (r : Int) (g : Int) (s : Int) (m : Int) : Prop := (!Go.Sx.A.f17_1 k a b r g s m) = Bool.false → (0 : Nat) + Int.toNat (2 : Int) < (6 : Nat)
def f15_8 (k : Int) (a : Int) (b : Int) (r : Int) (g : Int) (s : Int) (m : Int) : Prop := (!Go.Sx.A.f17_1 k a b r g s m) = Bool.false → (0 : Int) ≤ (3 : Int) ∧ (3 : Int) < (6 : Int)
def f15_9 (k : Int) (a : Int) (b : Int) (r : Int) (g : Int) (s : Int) (m : Int) : Prop := (!Go.Sx.A.f17_1 k a b r g s m) = Bool.false → (0 : Nat) + Int.toNat (3 : Int) < (6 : Nat)
def f15_10 (k : Int) (a : Int) (b : Int) (r : Int) (g : Int) (s : Int) (m : Int) : Prop := (!Go.Sx.A.f17_1 k a b r g s m) = Bool.false → (0 : Int) ≤ (4 : Int) ∧ (4 : Int) < (6 : Int)
def f15_11 (k : Int) (a : Int) (b : Int) (r : Int) (g : Int) (s : Int) (m : Int) : Prop := (!Go.Sx.A.f17_1 k a b r g s m) = Bool.false → (0 : Nat) + Int.toNat (4 : Int) < (6 : Nat)
def f15_12 (k : Int) (a : Int) (b : Int) (r : Int) (g : Int) (s : Int) (m : Int) : Prop := (!Go.Sx.A.f17_1 k a b r g s m) = Bool.false → (0 : Int) ≤ (5 : Int) ∧ (5 : Int) < (6 : Int)
def f15_13 (k : Int) (a : Int) (b : Int) (r : Int) (g : Int) (s : Int) (m : Int) : Prop := (!Go.Sx.A.f17_1 k a b r g s m) = Bool.false → (0 : Nat) + Int.toNat (5 : Int) < (6 : Nat)
def f15_14 (k : Int) (a : Int) (b : Int) (r : Int) (g : Int) (s : Int) (m : Int) : Int := Go.Sx.cnd (!Go.Sx.A.f17_1 k a b r g s m) (0 : Int) (Go.Sx.A.f45_1 (35 : Int) (27 : Int) (Go.Sx.A.f45_1 (19 : Int) (16 : Int) (Go.Sx.A.f45_1 (13 : Int) (6 : Int) (Go.Sx.A.f45_1 (10 : Int) (3 : Int) (Go.Sx.A.f45_1 (4 : Int) (6 : Int) (Go.Sx.A.f45_1 (0 : Int) (4 : Int) (0 : Int) (Go.IntKind.u64.wrap k)) (Go.IntKind.u64.wrap b)) (Go.IntKind.u64.wrap r)) (Go.IntKind.u64.wrap g)) (Go.IntKind.u64.wrap s)) (a.fdiv (32 : Int)))
def f15_15 (k : Int) (a : Int) (b : Int) (r : Int) (g : Int) (s : Int) (m : Int) : Int := Go.Sx.cnd (!Go.Sx.A.f17_1 k a b r g s m) (0 : Int) m
def f15_16 (k : Int) (a : Int) (b : Int) (r : Int) (g : Int) (s : Int) (m : Int) : Int := Go.Sx.cnd (!Go.Sx.A.f17_1 k a b r g s m) (10 : Int) (0 : Int)
theorem n15_0 (k : Int) (a : Int) (b : Int) (r : Int) (g : Int) (s : Int) (m : Int) : f15_0 k a b r g s m := by
  simp only [f15_0, cnd_eq]
  grind (splits := 40)
theorem n15_1 (k : Int) (a : Int) (b : Int) (r : Int) (g : Int) (s : Int) (m : Int) : f15_1 k a b r g s m := by
  unfold f15_1
  intros
  exact scpL_chunk (by kernel_rfl)
theorem n15_2 (k : Int) (a : Int) (b : Int) (r : Int) (g : Int) (s : Int) (m : Int) : f15_2 k a b r g s m := by
  simp only [f15_2, cnd_eq]
  grind (splits := 40)
theorem n15_3 (k : Int) (a : Int) (b : Int) (r : Int) (g : Int) (s : Int) (m : Int) : f15_3 k a b r g s m := by
  simp only [f15_3, cnd_eq]
  grind (splits := 40)
theorem n15_4 (k : Int) (a : Int) (b : Int) (r : Int) (g : Int) (s : Int) (m : Int) : f15_4 k a b r g s m := by
  simp only [f15_4, cnd_eq]
  grind (splits := 40)
theorem n15_5 (k : Int) (a : Int) (b : Int) (r : Int) (g : Int) (s : Int) (m : Int) : f15_5 k a b r g s m := by
  simp only [f15_5, cnd_eq]
  grind (splits := 40)
theorem n15_6 (k : Int) (a : Int) (b : Int) (r : Int) (g : Int) (s : Int) (m : Int) : f15_6 k a b r g s m := by
  simp only [f15_6, cnd_eq]
  grind (splits := 40)
theorem n15_7 (k : Int) (a : Int) (b : Int) (r : Int) (g : Int) (s : Int) (m : Int) : f15_7 k a b r g s m := by
  simp only [f15_7, cnd_eq]
  grind (splits := 40)
theorem n15_8 (k : Int) (a : Int) (b : Int) (r : Int) (g : Int) (s : Int) (m : Int) : f15_8 k a b r g s m := by
  simp only [f15_8, cnd_eq]
  grind (splits := 40)
theorem n15_9 (k : Int) (a : Int) (b : Int) (r : Int) (g : Int) (s : Int) (m : Int) : f15_9 k a b r g s m := by
  simp only [f15_9, cnd_eq]
  grind (splits := 40)
theorem n15_10 (k : Int) (a : Int) (b : Int) (r : Int) (g : Int) (s : Int) (m : Int) : f15_10 k a b r g s m := by
  simp only [f15_10, cnd_eq]
  grind (splits := 40)
theorem n15_11 (k : Int) (a : Int) (b : Int) (r : Int) (g : Int) (s : Int) (m : Int) : f15_11 k a b r g s m := by
  simp only [f15_11, cnd_eq]
  grind (splits := 40)
theorem n15_12 (k : Int) (a : Int) (b : Int) (r : Int) (g : Int) (s : Int) (m : Int) : f15_12 k a b r g s m := by
  simp only [f15_12, cnd_eq]
  grind (splits := 40)
theorem n15_13 (k : Int) (a : Int) (b : Int) (r : Int) (g : Int) (s : Int) (m : Int) : f15_13 k a b r g s m := by
  simp only [f15_13, cnd_eq]
  grind (splits := 40)
def f15 : List SV → Option (Tr SV)
  | [.agg [.int .i64 k, .int .u64 a, .int .i64 b, .int .i64 r, .int .i64 g, .int .i64 s, .int .u64 m]] => some (Go.Sx.Tr.leaf (Go.Sx.SV.tup (List.cons (Go.Sx.SV.int (Go.IntKind.u64) (f15_14 k a b r g s m)) (List.cons (Go.Sx.SV.int (Go.IntKind.u64) (f15_15 k a b r g s m)) (List.cons (Go.Sx.SV.int (Go.IntKind.i64) (f15_16 k a b r g s m)) (List.nil))))))
  | _ => none
theorem s15 : Sound Try.prog th 15 (pureC f15) := pure_auto2 (us := us15) (nice := nice45) nok45 20 fun args t h => by
  unfold f15 at h
  split at h
  · rename_i k a b r g s m
    cases h
    refine ⟨(Go.Sx.Tr.need (f15_0 k a b r g s m) (Go.Sx.Tr.need (f15_1 k a b r g s m) (Go.Sx.Tr.need (f15_2 k a b r g s m) (Go.Sx.Tr.need (f15_3 k a b r g s m) (Go.Sx.Tr.need (f15_4 k a b r g s m) (Go.Sx.Tr.need (f15_5 k a b r g s m) (Go.Sx.Tr.need (f15_6 k a b r g s m) (Go.Sx.Tr.need (f15_7 k a b r g s m) (Go.Sx.Tr.need (f15_8 k a b r g s m) (Go.Sx.Tr.need (f15_9 k a b r g s m) (Go.Sx.Tr.need (f15_10 k a b r g s m) (Go.Sx.Tr.need (f15_11 k a b r g s m) (Go.Sx.Tr.need (f15_12 k a b r g s m) (Go.Sx.Tr.need (f15_13 k a b r g s m) (Go.Sx.Tr.leaf (Go.Sx.SV.tup (List.cons (Go.Sx.SV.int (Go.IntKind.u64) (f15_14 k a b r g s m)) (List.cons (Go.Sx.SV.int (Go.IntKind.u64) (f15_15 k a b r g s m)) (List.cons (Go.Sx.SV.int (Go.IntKind.i64) (f15_16 k a b r g s m)) (List.nil)))))))))))))))))))), by kernel_rfl, fun ok => ?_, rfl⟩
    first
    | (simp only [Tr.ok, n15_0, n15_1, n15_2, n15_3, n15_4, n15_5, n15_6, n15_7, n15_8, n15_9, n15_10, n15_11, n15_12, n15_13, true_and, and_true, forall_const, implies_true]; done)
    | (simp only [Tr.ok, n15_0, n15_1, n15_2, n15_3, n15_4, n15_5, n15_6, n15_7, n15_8, n15_9, n15_10, n15_11, n15_12, n15_13, true_and, and_true, forall_const, implies_true]; done)
    | (simpa only [Tr.ok, n15_0, n15_1, n15_2, n15_3, n15_4, n15_5, n15_6, n15_7, n15_8, n15_9, n15_10, n15_11, n15_12, n15_13, true_and, and_true, forall_const, implies_true] using ok; done)
    | (simp only [Tr.ok, n15_0, n15_1, n15_2, n15_3, n15_4, n15_5, n15_6, n15_7, n15_8, n15_9, n15_10, n15_11, n15_12, n15_13, true_and, and_true, forall_const, implies_true] at ok ⊢; grind)
  · cases h
def nice15 : List (Nat × CF th.R) := (15, pureC f15) :: nice45
theorem nok15 : NiceOk Try.prog th nice15 := ⟨s15, nok45⟩
end Go.Sx.A

namespace Go.Sx.A
open Go Go.Sx Go.Proofs Go.RowKit
def us18 : List Un := [⟨59, [(2, 6)], [6]⟩, ⟨15, [(5, 7)], [15]⟩]
def f18_0 (a : Int) (b : Int) : Prop := (0 : Int) ≤ (5 : Int)
def f18_1 (a : Int) (b : Int) : Prop := ∀ (i : Nat), Go.Sx.scpL (0 : Nat) (Go.Sx.rowEl (6 : Nat) (nat_lit 2 + (1 : Nat)) (Go.Sx.setMany (Go.Sx.setMany (Go.Sx.setMany (Go.Sx.setMany (Go.Sx.setMany (Go.Sx.setMany (List.map (fun i => [Go.Sx.SV.int Go.IntKind.i64 (0 : Int), Go.Sx.SV.int Go.IntKind.i64 (0 : Int), Go.Sx.SV.int Go.IntKind.u64 (0 : Int)].getD (i % (3 : Nat)) Inhabited.default) (List.range ((6 : Nat) * (nat_lit 2 + (1 : Nat))))) ((0 : Nat) * (nat_lit 2 + (1 : Nat))) (Go.Sx.SV.agg (Go.Sx.setMany (Go.Sx.setMany [Go.Sx.SV.int Go.IntKind.i64 (0 : Int), Go.Sx.SV.int Go.IntKind.i64 (0 : Int), Go.Sx.SV.int Go.IntKind.u64 (0 : Int)] (Go.Field.mk "Field" (87 : Nat) (0 : Nat) Bool.true "" "" (0 : Nat)).offset (Go.Sx.SV.agg (Go.Sx.setMany (Go.Sx.setMany [Go.Sx.SV.int Go.IntKind.i64 (0 : Int), Go.Sx.SV.int Go.IntKind.i64 (0 : Int)] (Go.Field.mk "Low" (3 : Nat) (0 : Nat) Bool.false "" "" (0 : Nat)).offset (Go.Sx.SV.int Go.IntKind.i64 (0 : Int)).cells) (Go.Field.mk "Wide" (3 : Nat) (1 : Nat) Bool.false "" "" (8 : Nat)).offset (Go.Sx.SV.int Go.IntKind.i64 (4 : Int)).cells)).cells) (Go.Field.mk "v" (22 : Nat) (2 : Nat) Bool.false "" "portreeve/cap" (16 : Nat)).offset (Go.Sx.SV.int Go.IntKind.u64 (0 : Int)).cells)).cells) ((1 : Nat) * (nat_lit 2 + (1 : Nat))) (Go.Sx.SV.agg (Go.Sx.setMany (Go.Sx.setMany [Go.Sx.SV.int Go.IntKind.i64 (0 : Int), Go.Sx.SV.int Go.IntKind.i64 (0 : Int), Go.Sx.SV.int Go.IntKind.u64 (0 : Int)] (Go.Field.mk "Field" (87 : Nat) (0 : Nat) Bool.true "" "" (0 : Nat)).offset (Go.Sx.SV.agg (Go.Sx.setMany (Go.Sx.setMany [Go.Sx.SV.int Go.IntKind.i64 (0 : Int), Go.Sx.SV.int Go.IntKind.i64 (0 : Int)] (Go.Field.mk "Low" (3 : Nat) (0 : Nat) Bool.false "" "" (0 : Nat)).offset (Go.Sx.SV.int Go.IntKind.i64 (4 : Int)).cells) (Go.Field.mk "Wide" (3 : Nat) (1 : Nat) Bool.false "" "" (8 : Nat)).offset (Go.Sx.SV.int Go.IntKind.i64 (6 : Int)).cells)).cells) (Go.Field.mk "v" (22 : Nat) (2 : Nat) Bool.false "" "portreeve/cap" (16 : Nat)).offset (Go.Sx.SV.int Go.IntKind.u64 (0 : Int)).cells)).cells) ((2 : Nat) * (nat_lit 2 + (1 : Nat))) (Go.Sx.SV.agg (Go.Sx.setMany (Go.Sx.setMany [Go.Sx.SV.int Go.IntKind.i64 (0 : Int), Go.Sx.SV.int Go.IntKind.i64 (0 : Int), Go.Sx.SV.int Go.IntKind.u64 (0 : Int)] (Go.Field.mk "Field" (87 : Nat) (0 : Nat) Bool.true "" "" (0 : Nat)).offset (Go.Sx.SV.agg (Go.Sx.setMany (Go.Sx.setMany [Go.Sx.SV.int Go.IntKind.i64 (0 : Int), Go.Sx.SV.int Go.IntKind.i64 (0 : Int)] (Go.Field.mk "Low" (3 : Nat) (0 : Nat) Bool.false "" "" (0 : Nat)).offset (Go.Sx.SV.int Go.IntKind.i64 (10 : Int)).cells) (Go.Field.mk "Wide" (3 : Nat) (1 : Nat) Bool.false "" "" (8 : Nat)).offset (Go.Sx.SV.int Go.IntKind.i64 (3 : Int)).cells)).cells) (Go.Field.mk "v" (22 : Nat) (2 : Nat) Bool.false "" "portreeve/cap" (16 : Nat)).offset (Go.Sx.SV.int Go.IntKind.u64 (0 : Int)).cells)).cells) ((3 : Nat) * (nat_lit 2 + (1 : Nat))) (Go.Sx.SV.agg (Go.Sx.setMany (Go.Sx.setMany [Go.Sx.SV.int Go.IntKind.i64 (0 : Int), Go.Sx.SV.int Go.IntKind.i64 (0 : Int), Go.Sx.SV.int Go.IntKind.u64 (0 : Int)] (Go.Field.mk "Field" (87 : Nat) (0 : Nat) Bool.true "" "" (0 : Nat)).offset (Go.Sx.SV.agg (Go.Sx.setMany (Go.Sx.setMany [Go.Sx.SV.int Go.IntKind.i64 (0 : Int), Go.Sx.SV.int Go.IntKind.i64 (0 : Int)] (Go.Field.mk "Low" (3 : Nat) (0 : Nat) Bool.false "" "" (0 : Nat)).offset (Go.Sx.SV.int Go.IntKind.i64 (13 : Int)).cells) (Go.Field.mk "Wide" (3 : Nat) (1 : Nat) Bool.false "" "" (8 : Nat)).offset (Go.Sx.SV.int Go.IntKind.i64 (6 : Int)).cells)).cells) (Go.Field.mk "v" (22 : Nat) (2 : Nat) Bool.false "" "portreeve/cap" (16 : Nat)).offset (Go.Sx.SV.int Go.IntKind.u64 (0 : Int)).cells)).cells) ((4 : Nat) * (nat_lit 2 + (1 : Nat))) (Go.Sx.SV.agg (Go.Sx.setMany (Go.Sx.setMany [Go.Sx.SV.int Go.IntKind.i64 (0 : Int), Go.Sx.SV.int Go.IntKind.i64 (0 : Int), Go.Sx.SV.int Go.IntKind.u64 (0 : Int)] (Go.Field.mk "Field" (87 : Nat) (0 : Nat) Bool.true "" "" (0 : Nat)).offset (Go.Sx.SV.agg (Go.Sx.setMany (Go.Sx.setMany [Go.Sx.SV.int Go.IntKind.i64 (0 : Int), Go.Sx.SV.int Go.IntKind.i64 (0 : Int)] (Go.Field.mk "Low" (3 : Nat) (0 : Nat) Bool.false "" "" (0 : Nat)).offset (Go.Sx.SV.int Go.IntKind.i64 (19 : Int)).cells) (Go.Field.mk "Wide" (3 : Nat) (1 : Nat) Bool.false "" "" (8 : Nat)).offset (Go.Sx.SV.int Go.IntKind.i64 (16 : Int)).cells)).cells) (Go.Field.mk "v" (22 : Nat) (2 : Nat) Bool.false "" "portreeve/cap" (16 : Nat)).offset (Go.Sx.SV.int Go.IntKind.u64 (0 : Int)).cells)).cells) ((5 : Nat) * (nat_lit 2 + (1 : Nat))) (Go.Sx.SV.agg (Go.Sx.setMany (Go.Sx.setMany [Go.Sx.SV.int Go.IntKind.i64 (0 : Int), Go.Sx.SV.int Go.IntKind.i64 (0 : Int), Go.Sx.SV.int Go.IntKind.u64 (0 : Int)] (Go.Field.mk "Field" (87 : Nat) (0 : Nat) Bool.true "" "" (0 : Nat)).offset (Go.Sx.SV.agg (Go.Sx.setMany (Go.Sx.setMany [Go.Sx.SV.int Go.IntKind.i64 (0 : Int), Go.Sx.SV.int Go.IntKind.i64 (0 : Int)] (Go.Field.mk "Low" (3 : Nat) (0 : Nat) Bool.false "" "" (0 : Nat)).offset (Go.Sx.SV.int Go.IntKind.i64 (35 : Int)).cells) (Go.Field.mk "Wide" (3 : Nat) (1 : Nat) Bool.false "" "" (8 : Nat)).offset (Go.Sx.SV.int Go.IntKind.i64 (27 : Int)).cells)).cells) (Go.Field.mk "v" (22 : Nat) (2 : Nat) Bool.false "" "portreeve/cap" (16 : Nat)).offset (Go.Sx.SV.int Go.IntKind.u64 (0 : Int)).cells)).cells) i) = Bool.true
def f18_2 (a : Int) (b : Int) : Prop := (Bool.true = Bool.true → (0 : Int) ≤ (0 : Int) ∧ (0 : Int) < (6 : Int)) ∧ (Bool.true = Bool.true → (0 : Nat) + Int.toNat (0 : Int) < (6 : Nat)) ∧ (Bool.true = Bool.true → (0 : Int) ≤ (5 : Int) ∧ (5 : Int) < (6 : Int)) ∧ (Bool.true = Bool.true → (0 : Nat) + Int.toNat (5 : Int) < (6 : Nat)) ∧ (Bool.true = Bool.true → (0 : Int) ≤ (5 : Int)) ∧ (Bool.true = Bool.true → (0 : Int) ≤ (1 : Int) ∧ (1 : Int) < (6 : Int)) ∧ (Bool.true = Bool.true → (0 : Nat) + Int.toNat (1 : Int) < (6 : Nat)) ∧ (Bool.true = Bool.true → (0 : Int) ≤ (2 : Int) ∧ (2 : Int) < (6 : Int)) ∧ (Bool.true = Bool.true → (0 : Nat) + Int.toNat (2 : Int) < (6 : Nat)) ∧ (Bool.true = Bool.true → (0 : Int) ≤ (3 : Int) ∧ (3 : Int) < (6 : Int)) ∧ (Bool.true = Bool.true → (0 : Nat) + Int.toNat (3 : Int) < (6 : Nat)) ∧ (Bool.true = Bool.true → (0 : Int) ≤ (4 : Int) ∧ (4 : Int) < (6 : Int)) ∧ (Bool.true = Bool.true → (0 : Nat) + Int.toNat (4 : Int) < (6 : Nat))
def f18_3 (a : Int) (b : Int) : Int := Go.Sx.cnd (Go.Sx.cnd (Go.Sx.A.f15_16 (Go.IntKind.i64.wrap (Go.Sx.A.f53_1 (0 : Int) (4 : Int) a)) (Go.IntKind.u64.wrap (Go.Sx.A.f53_1 (35 : Int) (27 : Int) a * (32 : Int))) (Go.IntKind.i64.wrap (Go.Sx.A.f53_1 (4 : Int) (6 : Int) a)) (Go.IntKind.i64.wrap (Go.Sx.A.f53_1 (10 : Int) (3 : Int) a)) (Go.IntKind.i64.wrap (Go.Sx.A.f53_1 (13 : Int) (6 : Int) a)) (Go.IntKind.i64.wrap (Go.Sx.A.f53_1 (19 : Int) (16 : Int) a)) b != (0 : Int)) Bool.true (Go.Sx.A.f15_14 (Go.IntKind.i64.wrap (Go.Sx.A.f53_1 (0 : Int) (4 : Int) a)) (Go.IntKind.u64.wrap (Go.Sx.A.f53_1 (35 : Int) (27 : Int) a * (32 : Int))) (Go.IntKind.i64.wrap (Go.Sx.A.f53_1 (4 : Int) (6 : Int) a)) (Go.IntKind.i64.wrap (Go.Sx.A.f53_1 (10 : Int) (3 : Int) a)) (Go.IntKind.i64.wrap (Go.Sx.A.f53_1 (13 : Int) (6 : Int) a)) (Go.IntKind.i64.wrap (Go.Sx.A.f53_1 (19 : Int) (16 : Int) a)) b != a)) (0 : Int) (Go.IntKind.i64.wrap (Go.Sx.A.f53_1 (0 : Int) (4 : Int) a))
def f18_4 (a : Int) (b : Int) : Int := Go.Sx.cnd (Go.Sx.cnd (Go.Sx.A.f15_16 (Go.IntKind.i64.wrap (Go.Sx.A.f53_1 (0 : Int) (4 : Int) a)) (Go.IntKind.u64.wrap (Go.Sx.A.f53_1 (35 : Int) (27 : Int) a * (32 : Int))) (Go.IntKind.i64.wrap (Go.Sx.A.f53_1 (4 : Int) (6 : Int) a)) (Go.IntKind.i64.wrap (Go.Sx.A.f53_1 (10 : Int) (3 : Int) a)) (Go.IntKind.i64.wrap (Go.Sx.A.f53_1 (13 : Int) (6 : Int) a)) (Go.IntKind.i64.wrap (Go.Sx.A.f53_1 (19 : Int) (16 : Int) a)) b != (0 : Int)) Bool.true (Go.Sx.A.f15_14 (Go.IntKind.i64.wrap (Go.Sx.A.f53_1 (0 : Int) (4 : Int) a)) (Go.IntKind.u64.wrap (Go.Sx.A.f53_1 (35 : Int) (27 : Int) a * (32 : Int))) (Go.IntKind.i64.wrap (Go.Sx.A.f53_1 (4 : Int) (6 : Int) a)) (Go.IntKind.i64.wrap (Go.Sx.A.f53_1 (10 : Int) (3 : Int) a)) (Go.IntKind.i64.wrap (Go.Sx.A.f53_1 (13 : Int) (6 : Int) a)) (Go.IntKind.i64.wrap (Go.Sx.A.f53_1 (19 : Int) (16 : Int) a)) b != a)) (0 : Int) (Go.IntKind.u64.wrap (Go.Sx.A.f53_1 (35 : Int) (27 : Int) a * (32 : Int)))
def f18_5 (a : Int) (b : Int) : Int := Go.Sx.cnd (Go.Sx.cnd (Go.Sx.A.f15_16 (Go.IntKind.i64.wrap (Go.Sx.A.f53_1 (0 : Int) (4 : Int) a)) (Go.IntKind.u64.wrap (Go.Sx.A.f53_1 (35 : Int) (27 : Int) a * (32 : Int))) (Go.IntKind.i64.wrap (Go.Sx.A.f53_1 (4 : Int) (6 : Int) a)) (Go.IntKind.i64.wrap (Go.Sx.A.f53_1 (10 : Int) (3 : Int) a)) (Go.IntKind.i64.wrap (Go.Sx.A.f53_1 (13 : Int) (6 : Int) a)) (Go.IntKind.i64.wrap (Go.Sx.A.f53_1 (19 : Int) (16 : Int) a)) b != (0 : Int)) Bool.true (Go.Sx.A.f15_14 (Go.IntKind.i64.wrap (Go.Sx.A.f53_1 (0 : Int) (4 : Int) a)) (Go.IntKind.u64.wrap (Go.Sx.A.f53_1 (35 : Int) (27 : Int) a * (32 : Int))) (Go.IntKind.i64.wrap (Go.Sx.A.f53_1 (4 : Int) (6 : Int) a)) (Go.IntKind.i64.wrap (Go.Sx.A.f53_1 (10 : Int) (3 : Int) a)) (Go.IntKind.i64.wrap (Go.Sx.A.f53_1 (13 : Int) (6 : Int) a)) (Go.IntKind.i64.wrap (Go.Sx.A.f53_1 (19 : Int) (16 : Int) a)) b != a)) (0 : Int) (Go.IntKind.i64.wrap (Go.Sx.A.f53_1 (4 : Int) (6 : Int) a))
def f18_6 (a : Int) (b : Int) : Int := Go.Sx.cnd (Go.Sx.cnd (Go.Sx.A.f15_16 (Go.IntKind.i64.wrap (Go.Sx.A.f53_1 (0 : Int) (4 : Int) a)) (Go.IntKind.u64.wrap (Go.Sx.A.f53_1 (35 : Int) (27 : Int) a * (32 : Int))) (Go.IntKind.i64.wrap (Go.Sx.A.f53_1 (4 : Int) (6 : Int) a)) (Go.IntKind.i64.wrap (Go.Sx.A.f53_1 (10 : Int) (3 : Int) a)) (Go.IntKind.i64.wrap (Go.Sx.A.f53_1 (13 : Int) (6 : Int) a)) (Go.IntKind.i64.wrap (Go.Sx.A.f53_1 (19 : Int) (16 : Int) a)) b != (0 : Int)) Bool.true (Go.Sx.A.f15_14 (Go.IntKind.i64.wrap (Go.Sx.A.f53_1 (0 : Int) (4 : Int) a)) (Go.IntKind.u64.wrap (Go.Sx.A.f53_1 (35 : Int) (27 : Int) a * (32 : Int))) (Go.IntKind.i64.wrap (Go.Sx.A.f53_1 (4 : Int) (6 : Int) a)) (Go.IntKind.i64.wrap (Go.Sx.A.f53_1 (10 : Int) (3 : Int) a)) (Go.IntKind.i64.wrap (Go.Sx.A.f53_1 (13 : Int) (6 : Int) a)) (Go.IntKind.i64.wrap (Go.Sx.A.f53_1 (19 : Int) (16 : Int) a)) b != a)) (0 : Int) (Go.IntKind.i64.wrap (Go.Sx.A.f53_1 (10 : Int) (3 : Int) a))
def f18_7 (a : Int) (b : Int) : Int := Go.Sx.cnd (Go.Sx.cnd (Go.Sx.A.f15_16 (Go.IntKind.i64.wrap (Go.Sx.A.f53_1 (0 : Int) (4 : Int) a)) (Go.IntKind.u64.wrap (Go.Sx.A.f53_1 (35 : Int) (27 : Int) a * (32 : Int))) (Go.IntKind.i64.wrap (Go.Sx.A.f53_1 (4 : Int) (6 : Int) a)) (Go.IntKind.i64.wrap (Go.Sx.A.f53_1 (10 : Int) (3 : Int) a)) (Go.IntKind.i64.wrap (Go.Sx.A.f53_1 (13 : Int) (6 : Int) a)) (Go.IntKind.i64.wrap (Go.Sx.A.f53_1 (19 : Int) (16 : Int) a)) b != (0 : Int)) Bool.true (Go.Sx.A.f15_14 (Go.IntKind.i64.wrap (Go.Sx.A.f53_1 (0 : Int) (4 : Int) a)) (Go.IntKind.u64.wrap (Go.Sx.A.f53_1 (35 : Int) (27 : Int) a * (32 : Int))) (Go.IntKind.i64.wrap (Go.Sx.A.f53_1 (4 : Int) (6 : Int) a)) (Go.IntKind.i64.wrap (Go.Sx.A.f53_1 (10 : Int) (3 : Int) a)) (Go.IntKind.i64.wrap (Go.Sx.A.f53_1 (13 : Int) (6 : Int) a)) (Go.IntKind.i64.wrap (Go.Sx.A.f53_1 (19 : Int) (16 : Int) a)) b != a)) (0 : Int) (Go.IntKind.i64.wrap (Go.Sx.A.f53_1 (13 : Int) (6 : Int) a))
def f18_8 (a : Int) (b : Int) : Int := Go.Sx.cnd (Go.Sx.cnd (Go.Sx.A.f15_16 (Go.IntKind.i64.wrap (Go.Sx.A.f53_1 (0 : Int) (4 : Int) a)) (Go.IntKind.u64.wrap (Go.Sx.A.f53_1 (35 : Int) (27 : Int) a * (32 : Int))) (Go.IntKind.i64.wrap (Go.Sx.A.f53_1 (4 : Int) (6 : Int) a)) (Go.IntKind.i64.wrap (Go.Sx.A.f53_1 (10 : Int) (3 : Int) a)) (Go.IntKind.i64.wrap (Go.Sx.A.f53_1 (13 : Int) (6 : Int) a)) (Go.IntKind.i64.wrap (Go.Sx.A.f53_1 (19 : Int) (16 : Int) a)) b != (0 : Int)) Bool.true (Go.Sx.A.f15_14 (Go.IntKind.i64.wrap (Go.Sx.A.f53_1 (0 : Int) (4 : Int) a)) (Go.IntKind.u64.wrap (Go.Sx.A.f53_1 (35 : Int) (27 : Int) a * (32 : Int))) (Go.IntKind.i64.wrap (Go.Sx.A.f53_1 (4 : Int) (6 : Int) a)) (Go.IntKind.i64.wrap (Go.Sx.A.f53_1 (10 : Int) (3 : Int) a)) (Go.IntKind.i64.wrap (Go.Sx.A.f53_1 (13 : Int) (6 : Int) a)) (Go.IntKind.i64.wrap (Go.Sx.A.f53_1 (19 : Int) (16 : Int) a)) b != a)) (0 : Int) (Go.IntKind.i64.wrap (Go.Sx.A.f53_1 (19 : Int) (16 : Int) a))
def f18_9 (a : Int) (b : Int) : Int := Go.Sx.cnd (Go.Sx.cnd (Go.Sx.A.f15_16 (Go.IntKind.i64.wrap (Go.Sx.A.f53_1 (0 : Int) (4 : Int) a)) (Go.IntKind.u64.wrap (Go.Sx.A.f53_1 (35 : Int) (27 : Int) a * (32 : Int))) (Go.IntKind.i64.wrap (Go.Sx.A.f53_1 (4 : Int) (6 : Int) a)) (Go.IntKind.i64.wrap (Go.Sx.A.f53_1 (10 : Int) (3 : Int) a)) (Go.IntKind.i64.wrap (Go.Sx.A.f53_1 (13 : Int) (6 : Int) a)) (Go.IntKind.i64.wrap (Go.Sx.A.f53_1 (19 : Int) (16 : Int) a)) b != (0 : Int)) Bool.true (Go.Sx.A.f15_14 (Go.IntKind.i64.wrap (Go.Sx.A.f53_1 (0 : Int) (4 : Int) a)) (Go.IntKind.u64.wrap (Go.Sx.A.f53_1 (35 : Int) (27 : Int) a * (32 : Int))) (Go.IntKind.i64.wrap (Go.Sx.A.f53_1 (4 : Int) (6 : Int) a)) (Go.IntKind.i64.wrap (Go.Sx.A.f53_1 (10 : Int) (3 : Int) a)) (Go.IntKind.i64.wrap (Go.Sx.A.f53_1 (13 : Int) (6 : Int) a)) (Go.IntKind.i64.wrap (Go.Sx.A.f53_1 (19 : Int) (16 : Int) a)) b != a)) (0 : Int) b
def f18_10 (a : Int) (b : Int) : Int := Go.Sx.cnd (Go.Sx.cnd (Go.Sx.A.f15_16 (Go.IntKind.i64.wrap (Go.Sx.A.f53_1 (0 : Int) (4 : Int) a)) (Go.IntKind.u64.wrap (Go.Sx.A.f53_1 (35 : Int) (27 : Int) a * (32 : Int))) (Go.IntKind.i64.wrap (Go.Sx.A.f53_1 (4 : Int) (6 : Int) a)) (Go.IntKind.i64.wrap (Go.Sx.A.f53_1 (10 : Int) (3 : Int) a)) (Go.IntKind.i64.wrap (Go.Sx.A.f53_1 (13 : Int) (6 : Int) a)) (Go.IntKind.i64.wrap (Go.Sx.A.f53_1 (19 : Int) (16 : Int) a)) b != (0 : Int)) Bool.true (Go.Sx.A.f15_14 (Go.IntKind.i64.wrap (Go.Sx.A.f53_1 (0 : Int) (4 : Int) a)) (Go.IntKind.u64.wrap (Go.Sx.A.f53_1 (35 : Int) (27 : Int) a * (32 : Int))) (Go.IntKind.i64.wrap (Go.Sx.A.f53_1 (4 : Int) (6 : Int) a)) (Go.IntKind.i64.wrap (Go.Sx.A.f53_1 (10 : Int) (3 : Int) a)) (Go.IntKind.i64.wrap (Go.Sx.A.f53_1 (13 : Int) (6 : Int) a)) (Go.IntKind.i64.wrap (Go.Sx.A.f53_1 (19 : Int) (16 : Int) a)) b != a)) (10 : Int) (0 : Int)
theorem n18_0 (a : Int) (b : Int) : f18_0 a b := by
  simp only [f18_0, cnd_eq]
  grind (splits := 40)
theorem n18_1 (a : Int) (b : Int) : f18_1 a b := by
  unfold f18_1
  intros
  exact scpL_chunk (by kernel_rfl)
theorem n18_2 (a : Int) (b : Int) : f18_2 a b := by
  simp only [f18_2, cnd_eq]
  grind (splits := 40)
def f18 : List SV → Option (Tr SV)
  | [.int .u64 a, .int .u64 b] => some (Go.Sx.Tr.leaf (Go.Sx.SV.tup (List.cons (Go.Sx.SV.agg (List.cons (Go.Sx.SV.int (Go.IntKind.i64) (f18_3 a b)) (List.cons (Go.Sx.SV.int (Go.IntKind.u64) (f18_4 a b)) (List.cons (Go.Sx.SV.int (Go.IntKind.i64) (f18_5 a b)) (List.cons (Go.Sx.SV.int (Go.IntKind.i64) (f18_6 a b)) (List.cons (Go.Sx.SV.int (Go.IntKind.i64) (f18_7 a b)) (List.cons (Go.Sx.SV.int (Go.IntKind.i64) (f18_8 a b)) (List.cons (Go.Sx.SV.int (Go.IntKind.u64) (f18_9 a b)) (List.nil))))))))) (List.cons (Go.Sx.SV.int (Go.IntKind.i64) (f18_10 a b)) (List.nil)))))
  | _ => none
theorem s18 : Sound Try.prog th 18 (pureC f18) := pure_auto2 (us := us18) (nice := nice15) nok15 20 fun args t h => by
  unfold f18 at h
  split at h
  · rename_i a b
    cases h
    refine ⟨(Go.Sx.Tr.need (f18_0 a b) (Go.Sx.Tr.need (f18_1 a b) (Go.Sx.Tr.need (f18_2 a b) (Go.Sx.Tr.leaf (Go.Sx.SV.tup (List.cons (Go.Sx.SV.agg (List.cons (Go.Sx.SV.int (Go.IntKind.i64) (f18_3 a b)) (List.cons (Go.Sx.SV.int (Go.IntKind.u64) (f18_4 a b)) (List.cons (Go.Sx.SV.int (Go.IntKind.i64) (f18_5 a b)) (List.cons (Go.Sx.SV.int (Go.IntKind.i64) (f18_6 a b)) (List.cons (Go.Sx.SV.int (Go.IntKind.i64) (f18_7 a b)) (List.cons (Go.Sx.SV.int (Go.IntKind.i64) (f18_8 a b)) (List.cons (Go.Sx.SV.int (Go.IntKind.u64) (f18_9 a b)) (List.nil))))))))) (List.cons (Go.Sx.SV.int (Go.IntKind.i64) (f18_10 a b)) (List.nil)))))))), by kernel_rfl, fun ok => ?_, rfl⟩
    first
    | (simp only [Tr.ok, n18_0, n18_1, n18_2, true_and, and_true, forall_const, implies_true]; done)
    | (simp only [Tr.ok, n18_0, n18_1, n18_2, true_and, and_true, forall_const, implies_true]; done)
    | (simpa only [Tr.ok, n18_0, n18_1, n18_2, true_and, and_true, forall_const, implies_true] using ok; done)
    | (simp only [Tr.ok, n18_0, n18_1, n18_2, true_and, and_true, forall_const, implies_true] at ok ⊢; grind)
  · cases h
def nice18 : List (Nat × CF th.R) := (18, pureC f18) :: nice15
theorem nok18 : NiceOk Try.prog th nice18 := ⟨s18, nok15⟩
end Go.Sx.A

namespace Go.Sx.A
open Go Go.Sx Go.Proofs Go.RowKit
def us14 : List Un := [⟨59, [(2, 6)], [6]⟩, ⟨15, [(5, 7)], [15]⟩]
def f14 : List SV → Option (Tr SV)
  | [] => some (Go.Sx.Tr.leaf (Go.Sx.SV.bool (Bool.true)))
  | _ => none
theorem s14 : Sound Try.prog th 14 (pureC f14) := pure_auto (us := us14) (nice := nice18) nok18 20 fun args t h => by
  unfold f14 at h
  split at h
  · cases h; kernel_rfl
  · cases h
def nice14 : List (Nat × CF th.R) := (14, pureC f14) :: nice18
theorem nok14 : NiceOk Try.prog th nice14 := ⟨s14, nok18⟩
end Go.Sx.A

namespace Go.Sx.A
open Go Go.Sx Go.Proofs Go.RowKit
def us20 : List Un := [⟨59, [(2, 6)], [6]⟩, ⟨15, [(5, 7)], [15]⟩]
def f20_0 (a : Int) (b : Int) : Prop := (0 : Int) ≤ (0 : Int) ∧ (0 : Int) ≤ (4 : Int) ∧ (4 : Int) ≤ (64 : Int)
def f20_1 (a : Int) (b : Int) : Prop := (0 : Int) ≤ (4 : Int) ∧ (0 : Int) ≤ (6 : Int) ∧ (10 : Int) ≤ (64 : Int)
def f20_2 (a : Int) (b : Int) : Prop := (0 : Int) ≤ (10 : Int) ∧ (0 : Int) ≤ (3 : Int) ∧ (13 : Int) ≤ (64 : Int)
def f20_3 (a : Int) (b : Int) : Prop := (0 : Int) ≤ (13 : Int) ∧ (0 : Int) ≤ (6 : Int) ∧ (19 : Int) ≤ (64 : Int)
def f20_4 (a : Int) (b : Int) : Prop := (0 : Int) ≤ (19 : Int) ∧ (0 : Int) ≤ (16 : Int) ∧ (35 : Int) ≤ (64 : Int)
def f20_5 (a : Int) (b : Int) : Prop := (0 : Int) ≤ (35 : Int) ∧ (0 : Int) ≤ (27 : Int) ∧ (62 : Int) ≤ (64 : Int)
def f20_6 (a : Int) (b : Int) : Int := Go.IntKind.i64.wrap (Go.Sx.A.getI a (0 : Int) (4 : Int))
def f20_7 (a : Int) (b : Int) : Int := Go.IntKind.u64.wrap (Go.Sx.A.getI a (35 : Int) (27 : Int) * (32 : Int))
def f20_8 (a : Int) (b : Int) : Int := Go.IntKind.i64.wrap (Go.Sx.A.getI a (4 : Int) (6 : Int))
def f20_9 (a : Int) (b : Int) : Int := Go.IntKind.i64.wrap (Go.Sx.A.getI a (10 : Int) (3 : Int))
def f20_10 (a : Int) (b : Int) : Int := Go.IntKind.i64.wrap (Go.Sx.A.getI a (13 : Int) (6 : Int))
def f20_11 (a : Int) (b : Int) : Int := Go.IntKind.i64.wrap (Go.Sx.A.getI a (19 : Int) (16 : Int))
theorem n20_0 (a : Int) (b : Int) : f20_0 a b := by
  simp only [f20_0, cnd_eq]
  grind (splits := 40)
theorem n20_1 (a : Int) (b : Int) : f20_1 a b := by
  simp only [f20_1, cnd_eq]
  grind (splits := 40)
theorem n20_2 (a : Int) (b : Int) : f20_2 a b := by
  simp only [f20_2, cnd_eq]
  grind (splits := 40)
theorem n20_3 (a : Int) (b : Int) : f20_3 a b := by
  simp only [f20_3, cnd_eq]
  grind (splits := 40)
theorem n20_4 (a : Int) (b : Int) : f20_4 a b := by
  simp only [f20_4, cnd_eq]
  grind (splits := 40)
theorem n20_5 (a : Int) (b : Int) : f20_5 a b := by
  simp only [f20_5, cnd_eq]
  grind (splits := 40)
def f20 : List SV → Option (Tr SV)
  | [.int .u64 a, .int .u64 b] => some (Go.Sx.Tr.leaf (Go.Sx.SV.agg (List.cons (Go.Sx.SV.int (Go.IntKind.i64) (f20_6 a b)) (List.cons (Go.Sx.SV.int (Go.IntKind.u64) (f20_7 a b)) (List.cons (Go.Sx.SV.int (Go.IntKind.i64) (f20_8 a b)) (List.cons (Go.Sx.SV.int (Go.IntKind.i64) (f20_9 a b)) (List.cons (Go.Sx.SV.int (Go.IntKind.i64) (f20_10 a b)) (List.cons (Go.Sx.SV.int (Go.IntKind.i64) (f20_11 a b)) (List.cons (Go.Sx.SV.int (Go.IntKind.u64) (b)) (List.nil))))))))))
  | _ => none
theorem s20 : Sound Try.prog th 20 (pureC f20) := pure_auto2 (us := us20) (nice := nice14) nok14 20 fun args t h => by
  unfold f20 at h
  split at h
  · rename_i a b
    cases h
    refine ⟨(Go.Sx.Tr.need (f20_0 a b) (Go.Sx.Tr.need (f20_1 a b) (Go.Sx.Tr.need (f20_2 a b) (Go.Sx.Tr.need (f20_3 a b) (Go.Sx.Tr.need (f20_4 a b) (Go.Sx.Tr.need (f20_5 a b) (Go.Sx.Tr.leaf (Go.Sx.SV.agg (List.cons (Go.Sx.SV.int (Go.IntKind.i64) (f20_6 a b)) (List.cons (Go.Sx.SV.int (Go.IntKind.u64) (f20_7 a b)) (List.cons (Go.Sx.SV.int (Go.IntKind.i64) (f20_8 a b)) (List.cons (Go.Sx.SV.int (Go.IntKind.i64) (f20_9 a b)) (List.cons (Go.Sx.SV.int (Go.IntKind.i64) (f20_10 a b)) (List.cons (Go.Sx.SV.int (Go.IntKind.i64) (f20_11 a b)) (List.cons (Go.Sx.SV.int (Go.IntKind.u64) (b)) (List.nil)))))))))))))))), by kernel_rfl, fun ok => ?_, rfl⟩
    first
    | (simp only [Tr.ok, n20_0, n20_1, n20_2, n20_3, n20_4, n20_5, true_and, and_true, forall_const, implies_true]; done)
    | (simp only [Tr.ok, n20_0, n20_1, n20_2, n20_3, n20_4, n20_5, true_and, and_true, forall_const, implies_true]; done)
    | (simpa only [Tr.ok, n20_0, n20_1, n20_2, n20_3, n20_4, n20_5, true_and, and_true, forall_const, implies_true] using ok; done)
    | (simp only [Tr.ok, n20_0, n20_1, n20_2, n20_3, n20_4, n20_5, true_and, and_true, forall_const, implies_true] at ok ⊢; grind)
  · cases h
def nice20 : List (Nat × CF th.R) := (20, pureC f20) :: nice14
theorem nok20 : NiceOk Try.prog th nice20 := ⟨s20, nok14⟩
end Go.Sx.A

namespace Go.Sx.A
open Go Go.Sx Go.Proofs Go.RowKit
def us4 : List Un := [⟨59, [(2, 6)], [6]⟩, ⟨15, [(5, 7)], [15]⟩]
def f4_0 (a : Int) (b : Int) : Bool := Go.Sx.cnd (Go.Sx.cnd (!Go.Sx.A.f16_2 (Go.Sx.A.f20_6 a b) (Go.Sx.A.f20_7 a b) (Go.Sx.A.f20_8 a b) (Go.Sx.A.f20_9 a b) (Go.Sx.A.f20_10 a b) (Go.Sx.A.f20_11 a b) b) Bool.true (Go.Sx.A.f19_2 (Go.Sx.A.f20_6 a b) (Go.Sx.A.f20_7 a b) (Go.Sx.A.f20_8 a b) (Go.Sx.A.f20_9 a b) (Go.Sx.A.f20_10 a b) (Go.Sx.A.f20_11 a b) b != a)) (Go.Sx.cnd (Go.Sx.A.f18_10 a b == (10 : Int)) (Go.Sx.A.f18_3 a b == (0 : Int) && (Go.Sx.A.f18_4 a b == (0 : Int) && (Go.Sx.A.f18_5 a b == (0 : Int) && (Go.Sx.A.f18_6 a b == (0 : Int) && (Go.Sx.A.f18_7 a b == (0 : Int) && (Go.Sx.A.f18_8 a b == (0 : Int) && (Go.Sx.A.f18_9 a b == (0 : Int) && Bool.true))))))) Bool.false) (Go.Sx.cnd (Go.Sx.cnd (Go.Sx.cnd (Go.Sx.cnd (Go.Sx.A.f18_10 a b == (0 : Int)) (Go.Sx.A.f18_3 a b == Go.Sx.A.f20_6 a b && (Go.Sx.A.f18_4 a b == Go.Sx.A.f20_7 a b && (Go.Sx.A.f18_5 a b == Go.Sx.A.f20_8 a b && (Go.Sx.A.f18_6 a b == Go.Sx.A.f20_9 a b && (Go.Sx.A.f18_7 a b == Go.Sx.A.f20_10 a b && (Go.Sx.A.f18_8 a b == Go.Sx.A.f20_11 a b && (Go.Sx.A.f18_9 a b == b && Bool.true))))))) Bool.false) (Go.Sx.A.f15_16 (Go.Sx.A.f18_3 a b) (Go.Sx.A.f18_4 a b) (Go.Sx.A.f18_5 a b) (Go.Sx.A.f18_6 a b) (Go.Sx.A.f18_7 a b) (Go.Sx.A.f18_8 a b) (Go.Sx.A.f18_9 a b) == (0 : Int)) Bool.false) (Go.Sx.A.f15_14 (Go.Sx.A.f18_3 a b) (Go.Sx.A.f18_4 a b) (Go.Sx.A.f18_5 a b) (Go.Sx.A.f18_6 a b) (Go.Sx.A.f18_7 a b) (Go.Sx.A.f18_8 a b) (Go.Sx.A.f18_9 a b) == a) Bool.false) (Go.Sx.A.f15_15 (Go.Sx.A.f18_3 a b) (Go.Sx.A.f18_4 a b) (Go.Sx.A.f18_5 a b) (Go.Sx.A.f18_6 a b) (Go.Sx.A.f18_7 a b) (Go.Sx.A.f18_8 a b) (Go.Sx.A.f18_9 a b) == b) Bool.false)
def f4 : List SV → Option (Tr SV)
  | [.int .u64 a, .int .u64 b] => some (Go.Sx.Tr.leaf (Go.Sx.SV.bool (f4_0 a b)))
  | _ => none
theorem s4 : Sound Try.prog th 4 (pureC f4) := pure_auto (us := us4) (nice := nice20) nok20 20 fun args t h => by
  unfold f4 at h
  split at h
  · cases h; kernel_rfl
  · cases h
def nice4 : List (Nat × CF th.R) := (4, pureC f4) :: nice20
theorem nok4 : NiceOk Try.prog th nice4 := ⟨s4, nok20⟩
end Go.Sx.A

namespace Go.Sx.A
open Go Go.Sx Go.Proofs Go.RowKit
def us3 : List Un := [⟨59, [(2, 6)], [6]⟩, ⟨15, [(5, 7)], [15]⟩]
def f3_0 (k : Int) (a : Int) (b : Int) (r : Int) (g : Int) (s : Int) (m : Int) : Bool := Go.Sx.cnd (!Go.Sx.A.f16_2 k a b r g s m) (Go.Sx.cnd (Go.Sx.cnd (Go.Sx.cnd (!Go.Sx.A.f17_1 k a b r g s m) (Go.Sx.A.f15_16 k a b r g s m == (10 : Int)) Bool.false) (Go.Sx.A.f15_14 k a b r g s m == (0 : Int)) Bool.false) (Go.Sx.A.f15_15 k a b r g s m == (0 : Int)) Bool.false) (Go.Sx.cnd (Go.Sx.cnd (Go.Sx.cnd (Go.Sx.cnd (Go.Sx.cnd (Go.Sx.A.f17_1 k a b r g s m) (Go.Sx.A.f15_16 k a b r g s m == (0 : Int)) Bool.false) (Go.Sx.A.f15_14 k a b r g s m == Go.Sx.A.f19_2 k a b r g s m) Bool.false) (Go.Sx.A.f15_15 k a b r g s m == m) Bool.false) (Go.Sx.A.f18_10 (Go.Sx.A.f15_14 k a b r g s m) (Go.Sx.A.f15_15 k a b r g s m) == (0 : Int)) Bool.false) (Go.Sx.A.f18_3 (Go.Sx.A.f15_14 k a b r g s m) (Go.Sx.A.f15_15 k a b r g s m) == k && (Go.Sx.A.f18_4 (Go.Sx.A.f15_14 k a b r g s m) (Go.Sx.A.f15_15 k a b r g s m) == a && (Go.Sx.A.f18_5 (Go.Sx.A.f15_14 k a b r g s m) (Go.Sx.A.f15_15 k a b r g s m) == b && (Go.Sx.A.f18_6 (Go.Sx.A.f15_14 k a b r g s m) (Go.Sx.A.f15_15 k a b r g s m) == r && (Go.Sx.A.f18_7 (Go.Sx.A.f15_14 k a b r g s m) (Go.Sx.A.f15_15 k a b r g s m) == g && (Go.Sx.A.f18_8 (Go.Sx.A.f15_14 k a b r g s m) (Go.Sx.A.f15_15 k a b r g s m) == s && (Go.Sx.A.f18_9 (Go.Sx.A.f15_14 k a b r g s m) (Go.Sx.A.f15_15 k a b r g s m) == m && Bool.true))))))) Bool.false)
def f3 : List SV → Option (Tr SV)
  | [.agg [.int .i64 k, .int .u64 a, .int .i64 b, .int .i64 r, .int .i64 g, .int .i64 s, .int .u64 m]] => some (Go.Sx.Tr.leaf (Go.Sx.SV.bool (f3_0 k a b r g s m)))
  | _ => none
theorem s3 : Sound Try.prog th 3 (pureC f3) := pure_auto (us := us3) (nice := nice4) nok4 20 fun args t h => by
  unfold f3 at h
  split at h
  · cases h; kernel_rfl
  · cases h
def nice3 : List (Nat × CF th.R) := (3, pureC f3) :: nice4
theorem nok3 : NiceOk Try.prog th nice3 := ⟨s3, nok4⟩
end Go.Sx.A

namespace Go.Sx.A
open Go Go.Sx Go.Proofs Go.RowKit
def us8 : List Un := [⟨59, [(2, 6)], [6]⟩, ⟨15, [(5, 7)], [15]⟩]
def f8_0 (k : Int) (a : Int) (b : Int) (r : Int) (g : Int) (s : Int) (m : Int) : Prop := Bool.false = Bool.false → Go.Sx.cnd (!Go.Sx.A.f16_2 k a b r g s m) Bool.true (Decidable.decide (Go.Sx.A.f30_0 k b < (0 : Int))) = Bool.false → (Go.Sx.cnd (Go.Sx.A.f31_0 k a b r g s m == Go.Sx.A.f30_0 k b) Bool.true Bool.false = Bool.true → Go.Sx.A.f30_0 k b ≤ (4611686018427387904 : Int)) ∧ (Go.Sx.cnd (Go.Sx.cnd (Go.Sx.cnd (Go.Sx.A.f31_0 k a b r g s m == Go.Sx.A.f30_0 k b) (Go.Sx.A.f32_0 k a b r g s m == Go.IntKind.u64.wrap (a + Go.Sx.A.p26 (Go.Sx.A.f30_0 k b).toNat)) Bool.false) (Decidable.decide (Go.Sx.A.f32_0 k a b r g s m ≤ (4294967296 : Int))) Bool.false) Bool.true Bool.false = Bool.true → Go.Sx.A.f34_0 k a b r g s m) ∧ (Go.Sx.cnd (Go.Sx.cnd (Go.Sx.cnd (Go.Sx.cnd (Go.Sx.A.f31_0 k a b r g s m == Go.Sx.A.f30_0 k b) (Go.Sx.A.f32_0 k a b r g s m == Go.IntKind.u64.wrap (a + Go.Sx.A.p26 (Go.Sx.A.f30_0 k b).toNat)) Bool.false) (Decidable.decide (Go.Sx.A.f32_0 k a b r g s m ≤ (4294967296 : Int))) Bool.false) (Go.Sx.A.f33_1 k a b r g s m == Go.Sx.A.f34_1 k a b r g s m) Bool.false) Bool.true Bool.false = Bool.true → Go.Sx.A.f30_0 k b ≤ (4611686018427387904 : Int))
def f8_1 (k : Int) (a : Int) (b : Int) (r : Int) (g : Int) (s : Int) (m : Int) : Bool := Go.Sx.cnd (Go.Sx.cnd (!Go.Sx.A.f16_2 k a b r g s m) Bool.true (Decidable.decide (Go.Sx.A.f30_0 k b < (0 : Int)))) (Go.Sx.cnd (Go.Sx.cnd (Go.Sx.A.f31_0 k a b r g s m == (-1 : Int)) (Go.Sx.A.f32_0 k a b r g s m == (0 : Int)) Bool.false) (Go.Sx.A.f33_1 k a b r g s m == (0 : Int)) Bool.false) (Go.Sx.cnd (Go.Sx.cnd (Go.Sx.cnd (Go.Sx.cnd (Go.Sx.A.f31_0 k a b r g s m == Go.Sx.A.f30_0 k b) (Go.Sx.A.f32_0 k a b r g s m == Go.IntKind.u64.wrap (a + Go.Sx.A.p26 (Go.Sx.A.f30_0 k b).toNat)) Bool.false) (Decidable.decide (Go.Sx.A.f32_0 k a b r g s m ≤ (4294967296 : Int))) Bool.false) (Go.Sx.A.f33_1 k a b r g s m == Go.Sx.A.f34_1 k a b r g s m) Bool.false) (Decidable.decide (Go.IntKind.u64.wrap (Go.IntKind.u64.wrap (Go.Sx.A.f33_1 k a b r g s m) * (32 : Int)) ≤ Go.Sx.A.p26 (Go.Sx.A.f30_0 k b).toNat)) Bool.false)
def f8 : List SV → Option (Tr SV)
  | [.agg [.int .i64 k, .int .u64 a, .int .i64 b, .int .i64 r, .int .i64 g, .int .i64 s, .int .u64 m]] => some (Go.Sx.Tr.need (f8_0 k a b r g s m) (Go.Sx.Tr.leaf (Go.Sx.SV.bool (f8_1 k a b r g s m))))
  | _ => none
theorem s8 : Sound Try.prog th 8 (pureC f8) := pure_auto (us := us8) (nice := nice3) nok3 20 fun args t h => by
  unfold f8 at h
  split at h
  · cases h; kernel_rfl
  · cases h
def nice8 : List (Nat × CF th.R) := (8, pureC f8) :: nice3
theorem nok8 : NiceOk Try.prog th nice8 := ⟨s8, nok3⟩
end Go.Sx.A

