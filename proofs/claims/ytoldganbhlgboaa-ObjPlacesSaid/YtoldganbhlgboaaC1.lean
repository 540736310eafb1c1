/- Contracts of the functions of this seat, each by the executor and the kernel; part 1. Their conditions stand in each. -/
import Derived.Test.YtoldganbhlgboaaTx3
import Derived.Test.YtoldganbhlgboaaProg
import Derived.Laws.BitsAllLaws
import Derived.Maps.RangeWalk
import Derived.WalkKit
set_option linter.unusedVariables false
set_option linter.unusedSimpArgs false
namespace Go.Sx.M
open Go Go.Sx Go.Proofs Go.RowKit
noncomputable def th : Theory := memTh Try.prog 187 193 22
end Go.Sx.M

namespace Go.Sx.M
open Go Go.Sx Go.Proofs Go.RowKit
def us173 : List Un := [⟨173, [(2, 6)], [6]⟩]
def f173_0 (x : Int) : Int := cnd ((39 : Int) == x) (0 : Int) (cnd ((30 : Int) == x) (1 : Int) (cnd ((21 : Int) == x) (2 : Int) (cnd ((12 : Int) == x) (3 : Int) (0 : Int))))
def f173_1 (x : Int) : Bool := cnd ((39 : Int) == x) true (cnd ((30 : Int) == x) true (cnd ((21 : Int) == x) true (cnd ((12 : Int) == x) true false)))
def f173 : List SV → Option (Tr SV)
  | [.int .i64 x] => some (Tr.leaf (SV.tup [SV.int .i64 (f173_0 x), SV.bool (f173_1 x)]))
  | _ => none
theorem s173 : Sound Try.prog th 173 (pureC f173) := pure_auto (us := us173) (nice := ([] : List (Nat × CF th.R))) trivial 20 fun args t h => by
  unfold f173 at h
  split at h
  · cases h; kernel_rfl
  · cases h
noncomputable def nice173 : List (Nat × CF th.R) := (173, pureC f173) :: ([] : List (Nat × CF th.R))
theorem nok173 : NiceOk Try.prog th nice173 := ⟨s173, trivial⟩
end Go.Sx.M

namespace Go.Sx.M
open Go Go.Sx Go.Proofs Go.RowKit
def us172 : List Un := [⟨173, [(2, 6)], [6]⟩]
def f172_0 (k : Int) (b : Int) : Int := cnd (cnd (k == (0 : Int)) (k == (0 : Int)) (k == (6 : Int))) (-1 : Int) (cnd (k == (1 : Int)) b (cnd (cnd (k == (2 : Int)) (k == (2 : Int)) (k == (10 : Int))) (IntKind.i64.wrap (b + (5 : Int))) (cnd (k == (3 : Int)) b (cnd (cnd (k == (4 : Int)) (k == (4 : Int)) (cnd (k == (5 : Int)) (k == (5 : Int)) (k == (7 : Int)))) b (cnd (k == (8 : Int)) b (cnd (k == (9 : Int)) b (-1 : Int)))))))
def f172_1 (k : Int) (b : Int) : Bool := cnd (cnd (k == (0 : Int)) (k == (0 : Int)) (k == (6 : Int))) (b == (0 : Int)) (cnd (k == (1 : Int)) (cnd (decide (b ≥ (5 : Int))) (decide (b ≤ (32 : Int))) false) (cnd (cnd (k == (2 : Int)) (k == (2 : Int)) (k == (10 : Int))) (cnd (decide (b ≥ (1 : Int))) (decide (b ≤ (12 : Int))) false) (cnd (k == (3 : Int)) (cnd (f173_1 b) (decide (f173_0 b > (0 : Int))) false) (cnd (cnd (k == (4 : Int)) (k == (4 : Int)) (cnd (k == (5 : Int)) (k == (5 : Int)) (k == (7 : Int)))) (b == (12 : Int)) (cnd (k == (8 : Int)) (b == (7 : Int)) (cnd (k == (9 : Int)) (b == (5 : Int)) false))))))
def f172 : List SV → Option (Tr SV)
  | [.int .i64 k, .int .i64 b] => some (Tr.leaf (SV.tup [SV.int .i64 (f172_0 k b), SV.bool (f172_1 k b)]))
  | _ => none
theorem s172 : Sound Try.prog th 172 (pureC f172) := pure_auto (us := us172) (nice := nice173) nok173 20 fun args t h => by
  unfold f172 at h
  split at h
  · cases h; kernel_rfl
  · cases h
noncomputable def nice172 : List (Nat × CF th.R) := (172, pureC f172) :: nice173
theorem nok172 : NiceOk Try.prog th nice172 := ⟨s172, nok173⟩
end Go.Sx.M

namespace Go.Sx.M
open Go Go.Sx Go.Proofs Go.RowKit
def us123 : List Un := [⟨173, [(2, 6)], [6]⟩]
def f123_0 (n : Int) : Prop := decide (n < (1 : Int)) = false → decide (n ≥ (64 : Int)) = false → (0 : Int) ≤ n
def f123_1 (n : Int) : Int := cnd (decide (n < (1 : Int))) (0 : Int) (cnd (decide (n ≥ (64 : Int))) (18446744073709551615 : Int) (IntKind.u64.wrap (IntKind.u64.wrap ((1 : Int) * (2 : Int) ^ Min.min n.toNat IntKind.u64.bits) - (1 : Int))))
theorem n123_0 (n : Int) : f123_0 n := by
  simp only [f123_0, cnd_eq]
  grind (splits := 40)
def f123 : List SV → Option (Tr SV)
  | [.int .i64 n] => some (Tr.leaf (SV.int .u64 (f123_1 n)))
  | _ => none
theorem s123 : Sound Try.prog th 123 (pureC f123) := pure_auto2 (us := us123) (nice := nice172) nok172 20 fun args t h => by
  unfold f123 at h
  split at h
  · rename_i n
    cases h
    refine ⟨(Tr.need (f123_0 n) (Tr.leaf (SV.int .u64 (f123_1 n)))), by kernel_rfl, fun ok => ?_, rfl⟩
    first
    | (simp only [Tr.ok, n123_0, true_and, and_true, forall_const, implies_true]; done)
    | (simp only [Tr.ok, n123_0, true_and, and_true, forall_const, implies_true]; done)
    | (simpa only [Tr.ok, n123_0, true_and, and_true, forall_const, implies_true] using ok; done)
    | (simp only [Tr.ok, n123_0, true_and, and_true, forall_const, implies_true] at ok ⊢; grind)
  · cases h
noncomputable def nice123 : List (Nat × CF th.R) := (123, pureC f123) :: nice172
theorem nok123 : NiceOk Try.prog th nice123 := ⟨s123, nok172⟩
end Go.Sx.M

namespace Go.Sx.M
open Go Go.Sx Go.Proofs Go.RowKit
def us116 : List Un := [⟨173, [(2, 6)], [6]⟩]
def f116_0 (r : Int) : Bool := cnd (decide (r ≥ (0 : Int))) (decide (r ≤ (7 : Int))) false
def f116 : List SV → Option (Tr SV)
  | [.int .i64 r] => some (Tr.leaf (SV.bool (f116_0 r)))
  | _ => none
theorem s116 : Sound Try.prog th 116 (pureC f116) := pure_auto (us := us116) (nice := nice123) nok123 20 fun args t h => by
  unfold f116 at h
  split at h
  · cases h; kernel_rfl
  · cases h
noncomputable def nice116 : List (Nat × CF th.R) := (116, pureC f116) :: nice123
theorem nok116 : NiceOk Try.prog th nice116 := ⟨s116, nok123⟩
end Go.Sx.M

namespace Go.Sx.M
open Go Go.Sx Go.Proofs Go.RowKit
def us119 : List Un := [⟨173, [(2, 6)], [6]⟩]
def f119_0 (a : Int) (b : Int) : Bool := cnd (cnd (f116_0 a) (f116_0 b) false) (Go.bits Go.BinOp.andNot IntKind.i64 a b == (0 : Int)) false
def f119 : List SV → Option (Tr SV)
  | [.int .i64 a, .int .i64 b] => some (Tr.leaf (SV.bool (f119_0 a b)))
  | _ => none
theorem s119 : Sound Try.prog th 119 (pureC f119) := pure_auto (us := us119) (nice := nice116) nok116 20 fun args t h => by
  unfold f119 at h
  split at h
  · cases h; kernel_rfl
  · cases h
noncomputable def nice119 : List (Nat × CF th.R) := (119, pureC f119) :: nice116
theorem nok119 : NiceOk Try.prog th nice119 := ⟨s119, nok116⟩
end Go.Sx.M

namespace Go.Sx.M
open Go Go.Sx Go.Proofs Go.RowKit
def us125 : List Un := [⟨173, [(2, 6)], [6]⟩]
def f125_0 (w : Int) (n : Int) : Bool := Go.bits Go.BinOp.and IntKind.u64 w (f123_1 n) == (0 : Int)
def f125 : List SV → Option (Tr SV)
  | [.int .u64 w, .int .i64 n] => some (Tr.leaf (SV.bool (f125_0 w n)))
  | _ => none
theorem s125 : Sound Try.prog th 125 (pureC f125) := pure_auto (us := us125) (nice := nice119) nok119 20 fun args t h => by
  unfold f125 at h
  split at h
  · cases h; kernel_rfl
  · cases h
noncomputable def nice125 : List (Nat × CF th.R) := (125, pureC f125) :: nice119
theorem nok125 : NiceOk Try.prog th nice125 := ⟨s125, nok119⟩
end Go.Sx.M

namespace Go.Sx.M
open Go Go.Sx Go.Proofs Go.RowKit
def us194 : List Un := [⟨173, [(2, 6)], [6]⟩]
def f194_0 (l : Int) : Int := cnd (cnd (decide (l < (0 : Int))) true (decide (l ≥ (4 : Int)))) (0 : Int) (IntKind.i64.wrap ((12 : Int) + IntKind.i64.wrap ((9 : Int) * IntKind.i64.wrap ((3 : Int) - l))))
def f194 : List SV → Option (Tr SV)
  | [.int .i64 l] => some (Tr.leaf (SV.int .i64 (f194_0 l)))
  | _ => none
theorem s194 : Sound Try.prog th 194 (pureC f194) := pure_auto (us := us194) (nice := nice125) nok125 20 fun args t h => by
  unfold f194 at h
  split at h
  · cases h; kernel_rfl
  · cases h
noncomputable def nice194 : List (Nat × CF th.R) := (194, pureC f194) :: nice125
theorem nok194 : NiceOk Try.prog th nice194 := ⟨s194, nok125⟩
end Go.Sx.M

namespace Go.Sx.M
open Go Go.Sx Go.Proofs Go.RowKit
def us120 : List Un := [⟨173, [(2, 6)], [6]⟩]
def f120_0 (k : Int) (a : Int) (b : Int) (r : Int) (g : Int) (s : Int) (m : Int) : Bool := cnd (cnd (!f172_1 k b) true (decide (f172_0 k b < (0 : Int)))) (cnd (f172_1 k b) (a == (0 : Int)) false) (cnd (cnd (f125_0 a (f172_0 k b)) (decide (a < (4294967296 : Int))) false) (decide (IntKind.u64.wrap (f123_1 (f172_0 k b) + (1 : Int)) ≤ IntKind.u64.wrap ((4294967296 : Int) - a))) false)
def f120 : List SV → Option (Tr SV)
  | [.agg [.int .i64 k, .int .u64 a, .int .i64 b, .int .i64 r, .int .i64 g, .int .i64 s, .int .u64 m]] => some (Tr.leaf (SV.bool (f120_0 k a b r g s m)))
  | _ => none
theorem s120 : Sound Try.prog th 120 (pureC f120) := pure_auto (us := us120) (nice := nice194) nok194 20 fun args t h => by
  unfold f120 at h
  split at h
  · cases h; kernel_rfl
  · cases h
noncomputable def nice120 : List (Nat × CF th.R) := (120, pureC f120) :: nice194
theorem nok120 : NiceOk Try.prog th nice120 := ⟨s120, nok194⟩
end Go.Sx.M

namespace Go.Sx.M
open Go Go.Sx Go.Proofs Go.RowKit
def us195 : List Un := [⟨173, [(2, 6)], [6]⟩]
def f195_0 (w : Int) : Prop := (0 : Int) ≤ (48 : Int)
def f195_1 (w : Int) : Bool := w.fdiv (281474976710656 : Int) == (0 : Int)
theorem n195_0 (w : Int) : f195_0 w := by
  simp only [f195_0, cnd_eq]
  grind (splits := 40)
def f195 : List SV → Option (Tr SV)
  | [.int .u64 w] => some (Tr.leaf (SV.bool (f195_1 w)))
  | _ => none
theorem s195 : Sound Try.prog th 195 (pureC f195) := pure_auto2 (us := us195) (nice := nice120) nok120 20 fun args t h => by
  unfold f195 at h
  split at h
  · rename_i w
    cases h
    refine ⟨(Tr.need (f195_0 w) (Tr.leaf (SV.bool (f195_1 w)))), by kernel_rfl, fun ok => ?_, rfl⟩
    first
    | (simp only [Tr.ok, n195_0, true_and, and_true, forall_const, implies_true]; done)
    | (simp only [Tr.ok, n195_0, true_and, and_true, forall_const, implies_true]; done)
    | (simpa only [Tr.ok, n195_0, true_and, and_true, forall_const, implies_true] using ok; done)
    | (simp only [Tr.ok, n195_0, true_and, and_true, forall_const, implies_true] at ok ⊢; grind)
  · cases h
noncomputable def nice195 : List (Nat × CF th.R) := (195, pureC f195) :: nice120
theorem nok195 : NiceOk Try.prog th nice195 := ⟨s195, nok120⟩
end Go.Sx.M

namespace Go.Sx.M
open Go Go.Sx Go.Proofs Go.RowKit
def us210 : List Un := [⟨173, [(2, 6)], [6]⟩]
def f210_0 (n : Int) : Bool := cnd (decide (n ≥ (0 : Int))) (decide (n < (4 : Int))) false
def f210 : List SV → Option (Tr SV)
  | [.int .i64 n] => some (Tr.leaf (SV.bool (f210_0 n)))
  | _ => none
theorem s210 : Sound Try.prog th 210 (pureC f210) := pure_auto (us := us210) (nice := nice195) nok195 20 fun args t h => by
  unfold f210 at h
  split at h
  · cases h; kernel_rfl
  · cases h
noncomputable def nice210 : List (Nat × CF th.R) := (210, pureC f210) :: nice195
theorem nok210 : NiceOk Try.prog th nice210 := ⟨s210, nok195⟩
end Go.Sx.M

namespace Go.Sx.M
open Go Go.Sx Go.Proofs Go.RowKit
def us211 : List Un := [⟨173, [(2, 6)], [6]⟩]
def f211_0 (w : Int) (n : Int) : Int := Go.bits Go.BinOp.andNot IntKind.u64 w (f123_1 n)
def f211 : List SV → Option (Tr SV)
  | [.int .u64 w, .int .i64 n] => some (Tr.leaf (SV.int .u64 (f211_0 w n)))
  | _ => none
theorem s211 : Sound Try.prog th 211 (pureC f211) := pure_auto (us := us211) (nice := nice210) nok210 20 fun args t h => by
  unfold f211 at h
  split at h
  · cases h; kernel_rfl
  · cases h
noncomputable def nice211 : List (Nat × CF th.R) := (211, pureC f211) :: nice210
theorem nok211 : NiceOk Try.prog th nice211 := ⟨s211, nok210⟩
end Go.Sx.M

namespace Go.Sx.M
open Go Go.Sx Go.Proofs Go.RowKit
def us196 : List Un := [⟨173, [(2, 6)], [6]⟩]
def f196_0 (w : Int) (n : Int) : Int := cnd (!f210_0 n) (0 : Int) (f211_0 (Go.bits Go.BinOp.and IntKind.u64 w (281474976710655 : Int)) (f194_0 n))
def f196 : List SV → Option (Tr SV)
  | [.int .u64 w, .int .i64 n] => some (Tr.leaf (SV.int .u64 (f196_0 w n)))
  | _ => none
theorem s196 : Sound Try.prog th 196 (pureC f196) := pure_auto (us := us196) (nice := nice211) nok211 20 fun args t h => by
  unfold f196 at h
  split at h
  · cases h; kernel_rfl
  · cases h
noncomputable def nice196 : List (Nat × CF th.R) := (196, pureC f196) :: nice211
theorem nok196 : NiceOk Try.prog th nice196 := ⟨s196, nok211⟩
end Go.Sx.M

namespace Go.Sx.M
open Go Go.Sx Go.Proofs Go.RowKit
def us174 : List Un := [⟨173, [(2, 6)], [6]⟩]
def f174_0 (k : Int) (a : Int) (b : Int) (r : Int) (g : Int) (s : Int) (m : Int) (l : Int) : Bool := cnd (s == (0 : Int)) (m == (0 : Int)) (cnd (f195_1 m) (f196_0 m l == m) false)
def f174 : List SV → Option (Tr SV)
  | [.agg [.int .i64 k, .int .u64 a, .int .i64 b, .int .i64 r, .int .i64 g, .int .i64 s, .int .u64 m], .int .i64 l] => some (Tr.leaf (SV.bool (f174_0 k a b r g s m l)))
  | _ => none
theorem s174 : Sound Try.prog th 174 (pureC f174) := pure_auto (us := us174) (nice := nice196) nok196 20 fun args t h => by
  unfold f174 at h
  split at h
  · cases h; kernel_rfl
  · cases h
noncomputable def nice174 : List (Nat × CF th.R) := (174, pureC f174) :: nice196
theorem nok174 : NiceOk Try.prog th nice174 := ⟨s174, nok196⟩
end Go.Sx.M

namespace Go.Sx.M
open Go Go.Sx Go.Proofs Go.RowKit
def us121 : List Un := [⟨173, [(2, 6)], [6]⟩]
def f121_0 (k : Int) (a : Int) (b : Int) (r : Int) (g : Int) (s : Int) (m : Int) : Prop := (k == (1 : Int)) = false → (k == (2 : Int)) = false → (k == (3 : Int)) = false → (k == (4 : Int)) = false → (k == (7 : Int)) = false → (k == (9 : Int)) = false → (k == (10 : Int)) = true → true = true → (0 : Int) ≤ b
def f121_1 (k : Int) (a : Int) (b : Int) (r : Int) (g : Int) (s : Int) (m : Int) : Bool := cnd (k == (1 : Int)) (cnd (decide (m ≤ IntKind.u64.wrap (f123_1 b + (1 : Int)))) (f125_0 m (5 : Int)) false) (cnd (k == (2 : Int)) (cnd (decide (g ≤ if (63 : Int) < IntKind.i64.wrap ((64 : Int) - b) then (63 : Int) else IntKind.i64.wrap ((64 : Int) - b))) (Go.bits Go.BinOp.andNot IntKind.u64 m (f123_1 g) == (0 : Int)) false) (cnd (k == (3 : Int)) (f174_0 k a b r g s m (f173_0 b)) (cnd (k == (4 : Int)) (cnd (cnd (f174_0 k a b r g s m (IntKind.i64.wrap (g - (1 : Int)))) (decide (g ≥ (1 : Int)) == (s != (0 : Int))) false) (decide (g < (4 : Int))) false) (cnd (k == (7 : Int)) (decide (m < (8 : Int))) (cnd (k == (9 : Int)) true (cnd (k == (10 : Int)) (decide (m ≤ IntKind.u64.wrap ((1 : Int) * (2 : Int) ^ Min.min b.toNat IntKind.u64.bits))) (m == (0 : Int))))))))
def f121 : List SV → Option (Tr SV)
  | [.agg [.int .i64 k, .int .u64 a, .int .i64 b, .int .i64 r, .int .i64 g, .int .i64 s, .int .u64 m]] => some (Tr.need (f121_0 k a b r g s m) (Tr.leaf (SV.bool (f121_1 k a b r g s m))))
  | _ => none
theorem s121 : Sound Try.prog th 121 (pureC f121) := pure_auto (us := us121) (nice := nice174) nok174 20 fun args t h => by
  unfold f121 at h
  split at h
  · cases h; kernel_rfl
  · cases h
noncomputable def nice121 : List (Nat × CF th.R) := (121, pureC f121) :: nice174
theorem nok121 : NiceOk Try.prog th nice121 := ⟨s121, nok174⟩
end Go.Sx.M

namespace Go.Sx.M
open Go Go.Sx Go.Proofs Go.RowKit
def us45 : List Un := [⟨173, [(2, 6)], [6]⟩]
def f45_0 (k : Int) (a : Int) (b : Int) (r : Int) (g : Int) (s : Int) (m : Int) : Prop := cnd (cnd (cnd (cnd (cnd (cnd (cnd (f120_0 k a b r g s m) (decide (g ≥ (0 : Int))) false) (cnd (cnd (k == (2 : Int)) true (k == (4 : Int))) true (g == (0 : Int))) false) (decide (s ≥ (0 : Int))) false) (decide (s < (4096 : Int))) false) (cnd (cnd (cnd (k == (3 : Int)) true (k == (4 : Int))) true (k == (5 : Int))) true (s == (0 : Int))) false) (cnd (cnd (cnd (k == (3 : Int)) (f116_0 r) false) true (cnd (k == (9 : Int)) (f119_0 r (3 : Int)) false)) true (r == (0 : Int))) false) true false = true → f121_0 k a b r g s m
def f45_1 (k : Int) (a : Int) (b : Int) (r : Int) (g : Int) (s : Int) (m : Int) : Bool := cnd (cnd (cnd (cnd (cnd (cnd (cnd (f120_0 k a b r g s m) (decide (g ≥ (0 : Int))) false) (cnd (cnd (k == (2 : Int)) true (k == (4 : Int))) true (g == (0 : Int))) false) (decide (s ≥ (0 : Int))) false) (decide (s < (4096 : Int))) false) (cnd (cnd (cnd (k == (3 : Int)) true (k == (4 : Int))) true (k == (5 : Int))) true (s == (0 : Int))) false) (cnd (cnd (cnd (k == (3 : Int)) (f116_0 r) false) true (cnd (k == (9 : Int)) (f119_0 r (3 : Int)) false)) true (r == (0 : Int))) false) (f121_1 k a b r g s m) false
theorem n45_0 (k : Int) (a : Int) (b : Int) (r : Int) (g : Int) (s : Int) (m : Int) : f45_0 k a b r g s m := by
  simp only [f45_0, f121_0, f120_0, f172_0, f172_1, cnd_eq]
  grind (splits := 40)
def f45 : List SV → Option (Tr SV)
  | [.agg [.int .i64 k, .int .u64 a, .int .i64 b, .int .i64 r, .int .i64 g, .int .i64 s, .int .u64 m]] => some (Tr.leaf (SV.bool (f45_1 k a b r g s m)))
  | _ => none
theorem s45 : Sound Try.prog th 45 (pureC f45) := pure_auto2 (us := us45) (nice := nice121) nok121 20 fun args t h => by
  unfold f45 at h
  split at h
  · rename_i k a b r g s m
    cases h
    refine ⟨(Tr.need (f45_0 k a b r g s m) (Tr.leaf (SV.bool (f45_1 k a b r g s m)))), by kernel_rfl, fun ok => ?_, rfl⟩
    first
    | (simp only [Tr.ok, n45_0, true_and, and_true, forall_const, implies_true]; done)
    | (simp only [Tr.ok, n45_0, true_and, and_true, forall_const, implies_true]; done)
    | (simpa only [Tr.ok, n45_0, true_and, and_true, forall_const, implies_true] using ok; done)
    | (simp only [Tr.ok, n45_0, true_and, and_true, forall_const, implies_true] at ok ⊢; grind)
  · cases h
noncomputable def nice45 : List (Nat × CF th.R) := (45, pureC f45) :: nice121
theorem nok45 : NiceOk Try.prog th nice45 := ⟨s45, nok121⟩
end Go.Sx.M

namespace Go.Sx.M
open Go Go.Sx Go.Proofs Go.RowKit
def us162 : List Un := [⟨173, [(2, 6)], [6]⟩]
def f162_0 (k : Int) (a : Int) (b : Int) (r : Int) (g : Int) (s : Int) (m : Int) : Int := cnd (cnd (!f172_1 k b) true !f45_1 k a b r g s m) (-1 : Int) (f172_0 k b)
def f162 : List SV → Option (Tr SV)
  | [.agg [.int .i64 k, .int .u64 a, .int .i64 b, .int .i64 r, .int .i64 g, .int .i64 s, .int .u64 m]] => some (Tr.leaf (SV.int .i64 (f162_0 k a b r g s m)))
  | _ => none
theorem s162 : Sound Try.prog th 162 (pureC f162) := pure_auto (us := us162) (nice := nice45) nok45 20 fun args t h => by
  unfold f162 at h
  split at h
  · cases h; kernel_rfl
  · cases h
noncomputable def nice162 : List (Nat × CF th.R) := (162, pureC f162) :: nice45
theorem nok162 : NiceOk Try.prog th nice162 := ⟨s162, nok45⟩
end Go.Sx.M

namespace Go.Sx.M
open Go Go.Sx Go.Proofs Go.RowKit
def us126 : List Un := [⟨173, [(2, 6)], [6]⟩]
def f126_0 (k : Int) (a : Int) (b : Int) (r : Int) (g : Int) (s : Int) (m : Int) : Int := cnd (decide (f162_0 k a b r g s m < (0 : Int))) (0 : Int) (IntKind.u64.wrap (IntKind.u64.wrap (a + f123_1 (f162_0 k a b r g s m)) + (1 : Int)))
def f126 : List SV → Option (Tr SV)
  | [.agg [.int .i64 k, .int .u64 a, .int .i64 b, .int .i64 r, .int .i64 g, .int .i64 s, .int .u64 m]] => some (Tr.leaf (SV.int .u64 (f126_0 k a b r g s m)))
  | _ => none
theorem s126 : Sound Try.prog th 126 (pureC f126) := pure_auto (us := us126) (nice := nice162) nok162 20 fun args t h => by
  unfold f126 at h
  split at h
  · cases h; kernel_rfl
  · cases h
noncomputable def nice126 : List (Nat × CF th.R) := (126, pureC f126) :: nice162
theorem nok126 : NiceOk Try.prog th nice126 := ⟨s126, nok162⟩
end Go.Sx.M

namespace Go.Sx.M
open Go Go.Sx Go.Proofs Go.RowKit
def us129 : List Un := [⟨173, [(2, 6)], [6]⟩]
def f129_0 (k : Int) (a : Int) (b : Int) (r : Int) (g : Int) (s : Int) (m : Int) : Prop := (!f45_1 k a b r g s m) = false → cnd (k == (2 : Int)) true (k == (10 : Int)) = true → (0 : Int) ≤ b
def f129_1 (k : Int) (a : Int) (b : Int) (r : Int) (g : Int) (s : Int) (m : Int) : Int := cnd (!f45_1 k a b r g s m) (0 : Int) (cnd (cnd (k == (2 : Int)) true (k == (10 : Int))) (IntKind.i64.wrap ((1 : Int) * (2 : Int) ^ Min.min b.toNat IntKind.i64.bits)) (cnd (k == (8 : Int)) (2 : Int) (0 : Int)))
theorem n129_0 (k : Int) (a : Int) (b : Int) (r : Int) (g : Int) (s : Int) (m : Int) : f129_0 k a b r g s m := by
  simp only [f129_0, f45_0, f45_1, f120_0, f172_0, f172_1, cnd_eq]
  grind (splits := 40)
def f129 : List SV → Option (Tr SV)
  | [.agg [.int .i64 k, .int .u64 a, .int .i64 b, .int .i64 r, .int .i64 g, .int .i64 s, .int .u64 m]] => some (Tr.leaf (SV.int .i64 (f129_1 k a b r g s m)))
  | _ => none
theorem s129 : Sound Try.prog th 129 (pureC f129) := pure_auto2 (us := us129) (nice := nice126) nok126 20 fun args t h => by
  unfold f129 at h
  split at h
  · rename_i k a b r g s m
    cases h
    refine ⟨(Tr.need (f129_0 k a b r g s m) (Tr.leaf (SV.int .i64 (f129_1 k a b r g s m)))), by kernel_rfl, fun ok => ?_, rfl⟩
    first
    | (simp only [Tr.ok, n129_0, true_and, and_true, forall_const, implies_true]; done)
    | (simp only [Tr.ok, n129_0, true_and, and_true, forall_const, implies_true]; done)
    | (simpa only [Tr.ok, n129_0, true_and, and_true, forall_const, implies_true] using ok; done)
    | (simp only [Tr.ok, n129_0, true_and, and_true, forall_const, implies_true] at ok ⊢; grind)
  · cases h
noncomputable def nice129 : List (Nat × CF th.R) := (129, pureC f129) :: nice126
theorem nok129 : NiceOk Try.prog th nice129 := ⟨s129, nok126⟩
end Go.Sx.M

namespace Go.Sx.M
open Go Go.Sx Go.Proofs Go.RowKit
def l26_0 (n : Int) (p : Int) (i : Int) (h : List (HO th.R)) (d : List Nat) (w : List Nat) : Bool := cnd (decide (i < n)) false true
def l26_1 (n : Int) (p : Int) (i : Int) (h : List (HO th.R)) (d : List Nat) (w : List Nat) : Bool := decide (i < n)
def l26_2 (n : Int) (p : Int) (i : Int) (h : List (HO th.R)) (d : List Nat) (w : List Nat) : Int := IntKind.u64.wrap (p + p)
def l26_3 (n : Int) (p : Int) (i : Int) (h : List (HO th.R)) (d : List Nat) (w : List Nat) : Int := IntKind.i64.wrap (i + (1 : Int))
def l26 (n p i : Int) (h : List (HO th.R)) (d w : List Nat) : Tr (Ex × St th.R) := (Tr.ite (l26_0 n p i h d w) (Tr.leaf ((Ex.exit (0:Nat)), (St.mk [some (SV.int .i64 (n)), none, (some (SV.int .u64 (0 : Int))), some (SV.int .u64 (p)), some (SV.int .i64 (i)), some (SV.int .i64 (i)), some (SV.int .i64 (n)), some (SV.bool (l26_1 n p i h d w)), none, none, none, none, none, none] (h) (d) ((7 : Nat) :: (6 : Nat) :: (5 : Nat) :: (w))))) (Tr.leaf (Ex.normal, (St.mk [some (SV.int .i64 (n)), none, (some (SV.int .u64 (0 : Int))), some (SV.int .u64 (l26_2 n p i h d w)), some (SV.int .i64 (l26_3 n p i h d w)), some (SV.int .i64 (i)), some (SV.int .i64 (n)), some (SV.bool (l26_1 n p i h d w)), some (SV.int .i64 (i)), some (SV.int .i64 (l26_3 n p i h d w)), some (SV.int .u64 (p)), some (SV.int .u64 (p)), some (SV.int .u64 (l26_2 n p i h d w)), none] (h) (d) ((4 : Nat) :: (9 : Nat) :: (8 : Nat) :: (3 : Nat) :: (12 : Nat) :: (11 : Nat) :: (10 : Nat) :: (7 : Nat) :: (6 : Nat) :: (5 : Nat) :: (w))))))
def p26 (i : Nat) : Int := ((2 ^ i % 18446744073709551616 : Nat) : Int)
def i26 (n : Int) (h : List (HO th.R)) (d w : List Nat) (i : Nat) : St th.R :=
  ⟨[some (.int .i64 n), none, some (.int .u64 0), some (.int .u64 (p26 i)), some (.int .i64 i), none, none, none, none, none, none, none, none, none], h, d, w⟩
def o26 (n : Int) (h : List (HO th.R)) (d w : List Nat) (i : Nat) : St th.R :=
  ⟨[some (.int .i64 n), none, some (.int .u64 0), some (.int .u64 (p26 i)), none, none, none, none, none, none, none, none, none, none], h, d, [3, 4, 5, 6, 7, 8, 9, 10, 11, 12, 13] ++ w⟩
def L26 (st : St th.R) : Out th := match st with
  | ⟨[some (.int .i64 n), none, some (.int .u64 z), some (.int .u64 p), some (.int .i64 i), _, _, _, _, _, _, _, _, _], h, d, w⟩ =>
    some (.need (z = 0 ∧ p = 1 ∧ i = 0 ∧ n ≤ 4611686018427387904) (.leaf (.exit 0, o26 n h d w n.toNat)))
  | _ => none
def H26 : Hints th := Hints.mk (fun n => match beqN n 3 with
    | true => some L26
    | false => none) (fun _ => none) (fun _ => false) (fun _ => none) []
theorem L26_sound : CodeSound th Try.prog (.loop (lpAt Try.prog 26 0)) L26 := by
  intro st t h hok
  unfold L26 at h
  split at h
  · rename_i n z p i s5 s6 s7 s8 s9 s10 s11 s12 s13 h d w
    cases h
    obtain ⟨⟨rfl, rfl, rfl, hn⟩, _⟩ := hok
    refine ⟨⟨Nat.le_refl _, rfl, fun _ x => x, fun _ x => List.mem_append_right _ x, fun _ _ _ => rfl, ?_⟩, fun K w0 ρ a wd Q hr hQ => ?_⟩
    · intro m hm
      simp only [Tr.get, o26, List.mem_append, List.mem_cons, not_or] at hm ⊢
      match m, hm with
      | 0, _ => rfl
      | 1, _ => rfl
      | 2, _ => rfl
      | 3, hm => exact absurd rfl hm.1.1
      | 4, hm => exact absurd rfl hm.1.2.1
      | 5, hm => exact absurd rfl hm.1.2.2.1
      | 6, hm => exact absurd rfl hm.1.2.2.2.1
      | 7, hm => exact absurd rfl hm.1.2.2.2.2.1
      | 8, hm => exact absurd rfl hm.1.2.2.2.2.2.1
      | 9, hm => exact absurd rfl hm.1.2.2.2.2.2.2.1
      | 10, hm => exact absurd rfl hm.1.2.2.2.2.2.2.2.1
      | 11, hm => exact absurd rfl hm.1.2.2.2.2.2.2.2.2.1
      | 12, hm => exact absurd rfl hm.1.2.2.2.2.2.2.2.2.2.1
      | 13, hm => exact absurd rfl hm.1.2.2.2.2.2.2.2.2.2.2.1
      | m + 14, _ => rfl
    · have hwk := Wk.blank (T := th) (s := ⟨[some (.int .i64 n), none, some (.int .u64 0), some (.int .u64 1), some (.int .i64 0), s5, s6, s7, s8, s9, s10, s11, s12, s13], h, d, w⟩) (s' := i26 n h d w 0) [5, 6, 7, 8, 9, 10, 11, 12, 13] rfl rfl
      obtain ⟨ρ1, hp1, hr1⟩ := hwk K w0 ρ a wd hr
      refine loop_rule (evCode_sound (tbl := fun _ => none) (fun _ _ e => by cases e) (noLoops th (fun _ => none) (fun _ => false)) _ (LoopsOk_none (fun _ => rfl) (fun _ => rfl) _)) (N := n.toNat) (I := i26 n h d w) (F := o26 n h d w n.toNat) (ex := .exit 0)
        (fun e => by cases e) ?_ ?_ hr1 (fun ρ' a' w' hp hr' => hQ ρ' a' w' (hp1.trans hp) hr')
      · intro i hi
        have hc : decide ((i : Int) < n) = true := by simp; omega
        refine ⟨l26 n (p26 i) i h d w, by kernel_rfl, ?_, ?_, ?_⟩
        · simp only [l26, l26_0, hc, cnd, Tr.ok]; exact ⟨(fun e => by cases e), fun _ => trivial⟩
        · simp only [l26, l26_0, hc, cnd, Tr.get]
        · have e1 : l26_2 n (p26 i) i h d w = p26 (i + 1) := by
            simp only [l26_2, p26, wrap_u64]
            have : 2 ^ (i + 1) = 2 ^ i + 2 ^ i := by rw [Nat.pow_succ]; omega
            rw [this]
            generalize 2 ^ i = q
            omega
          have e2 : l26_3 n (p26 i) i h d w = ((i + 1 : Nat) : Int) := by
            simp only [l26_3]
            rw [wrap_i64 (by omega) (by omega)]
            omega
          refine Wk.blank [5, 6, 7, 8, 9, 10, 11, 12, 13] ?_ ?_
          · simp only [l26, l26_0, hc, cnd, Tr.get, e1, e2]; rfl
          · simp only [l26, l26_0, hc, cnd, Tr.get]; rfl
      · have hc : decide (((n.toNat : Nat) : Int) < n) = false := by simp; omega
        refine ⟨l26 n (p26 n.toNat) n.toNat h d w, by kernel_rfl, ?_, ?_, ?_⟩
        · simp only [l26, l26_0, hc, cnd, Tr.ok]; exact ⟨fun _ => trivial, (fun e => by cases e)⟩
        · simp only [l26, l26_0, hc, cnd, Tr.get]
        · refine Wk.blank [4, 5, 6, 7, 8, 9, 10, 11, 12, 13] ?_ ?_
          · simp only [l26, l26_0, hc, cnd, Tr.get]; rfl
          · simp only [l26, l26_0, hc, cnd, Tr.get]; rfl
  · cases h
def f26 : List SV → Option (Tr SV)
  | [.int .i64 n] => some (.need (n ≤ 4611686018427387904) (.leaf (.int .u64 (p26 n.toNat))))
  | _ => none
theorem s26 : Sound Try.prog th 26 (pureC f26) := pure_fn (tbl := fun _ => none) (H := H26) (fun _ _ e => by cases e)
  (LoopsOk_at (m := 1) (by kernel_rfl) (fun j hj L hL => by
    have : j = 0 := by omega
    subst this
    have e : H26.loops (firstReg (lpAt Try.prog 26 0)) = some L26 := by kernel_rfl
    rw [e] at hL
    cases hL
    exact L26_sound)) fun args t h hok => by
  unfold f26 at h
  split at h
  · rename_i n
    cases h
    exact ⟨.need ((0 : Int) = 0 ∧ (1 : Int) = 1 ∧ (0 : Int) = 0 ∧ n ≤ 4611686018427387904) (.leaf (.int .u64 (p26 n.toNat), [], [])), by kernel_rfl, ⟨⟨rfl, rfl, rfl, hok.1⟩, trivial⟩, rfl⟩
  · cases h
theorem p26_eq {n : Nat} (h : n ≤ 63) : p26 n = ((2 ^ n : Nat) : Int) := by
  have : 2 ^ n ≤ 2 ^ 63 := Nat.pow_le_pow_right (by omega) h
  unfold p26
  rw [Nat.mod_eq_of_lt (by omega)]
theorem p26_pos {n : Nat} (h : n ≤ 63) : 0 < p26 n := by
  have : 0 < 2 ^ n := Nat.pow_pos (by omega)
  rw [p26_eq h]
  exact Int.ofNat_lt.2 this
theorem p26_ne {n : Int} (h : n ≤ 63) : p26 n.toNat ≠ 0 := by
  have := p26_pos (n := n.toNat) (by omega)
  omega
noncomputable def nice26 : List (Nat × CF th.R) := (26, pureC f26) :: nice129
theorem nok26 : NiceOk Try.prog th nice26 := ⟨s26, nok129⟩
end Go.Sx.M

namespace Go.Sx.M
open Go Go.Sx Go.Proofs Go.RowKit
def us176 : List Un := [⟨173, [(2, 6)], [6]⟩]
def f176_0 (k : Int) (b : Int) : Int := cnd (cnd (cnd (k == (0 : Int)) true (k == (6 : Int))) (b == (0 : Int)) false) (-1 : Int) (cnd (cnd (k == (0 : Int)) true (k == (6 : Int))) (-2 : Int) (cnd (cnd (cnd (k == (1 : Int)) (decide (b ≥ (5 : Int))) false) (decide (b ≤ (32 : Int))) false) b (cnd (cnd (cnd (cnd (k == (2 : Int)) true (k == (10 : Int))) (decide (b ≥ (1 : Int))) false) (decide (b ≤ (12 : Int))) false) (IntKind.i64.wrap (b + (5 : Int))) (cnd (cnd (k == (3 : Int)) (cnd (cnd (b == (12 : Int)) true (b == (21 : Int))) true (b == (30 : Int))) false) b (cnd (cnd (cnd (cnd (k == (4 : Int)) true (k == (5 : Int))) true (k == (7 : Int))) (b == (12 : Int)) false) (12 : Int) (cnd (cnd (cnd (k == (8 : Int)) (b == (7 : Int)) false) true (cnd (k == (9 : Int)) (b == (5 : Int)) false)) b (-2 : Int)))))))
def f176 : List SV → Option (Tr SV)
  | [.int .i64 k, .int .i64 b] => some (Tr.leaf (SV.int .i64 (f176_0 k b)))
  | _ => none
theorem s176 : Sound Try.prog th 176 (pureC f176) := pure_auto (us := us176) (nice := nice26) nok26 20 fun args t h => by
  unfold f176 at h
  split at h
  · cases h; kernel_rfl
  · cases h
theorem b30 (k b : Int) : f176_0 k b ≤ 63 := by
  simp only [f176_0, cnd_eq]
  grind (splits := 40) [wrap_i64]
noncomputable def nice176 : List (Nat × CF th.R) := (176, pureC f176) :: nice26
theorem nok176 : NiceOk Try.prog th nice176 := ⟨s176, nok26⟩
end Go.Sx.M

namespace Go.Sx.M
open Go Go.Sx Go.Proofs Go.RowKit
def us118 : List Un := [⟨173, [(2, 6)], [6]⟩]
def f118_0 (r : Int) : Bool := cnd (decide (r ≥ (0 : Int))) (decide (r ≤ (7 : Int))) false
def f118 : List SV → Option (Tr SV)
  | [.int .i64 r] => some (Tr.leaf (SV.bool (f118_0 r)))
  | _ => none
theorem s118 : Sound Try.prog th 118 (pureC f118) := pure_auto (us := us118) (nice := nice176) nok176 20 fun args t h => by
  unfold f118 at h
  split at h
  · cases h; kernel_rfl
  · cases h
noncomputable def nice118 : List (Nat × CF th.R) := (118, pureC f118) :: nice176
theorem nok118 : NiceOk Try.prog th nice118 := ⟨s118, nok176⟩
end Go.Sx.M

namespace Go.Sx.M
open Go Go.Sx Go.Proofs Go.RowKit
def halves (w : Int) : Nat → Int
  | 0 => w
  | n + 1 => IntKind.u64.wrap ((halves w n).tdiv 2)
def bitI (w : Int) (j : Nat) : Bool := (halves w j).tmod 2 == 1
def fill66 (w : Int) : Nat → Nat → Bool
  | 0 => fun _ => false
  | n + 1 => fun j => cnd (Nat.beq (cnt n).toNat j) (bitI w n) (fill66 w n j)
noncomputable def E66 : St th.R → Out th := evCode th Try.prog (fun _ => none) (noLoops th (fun _ => none) (fun _ => false)) (lpAt Try.prog 166 0)
def i66 (w : Int) (z : HO th.R) (d ws : List Nat) (i : Nat) : St th.R :=
  ⟨[some (.int .u64 (halves w i)), none, some (.ptr 0 0), some (.ptr 1 0), some (.int .i64 (cnt i)), none, none, none, none, none, none, none, none, none, none, none, none], [z, .cells 212 (bl 64 (fill66 w i))], d, ws⟩
def o66 (w : Int) (z : HO th.R) (d ws : List Nat) : St th.R :=
  ⟨[none, none, some (.ptr 0 0), some (.ptr 1 0), none, none, none, none, none, none, none, none, none, none, none, none, none], [z, .cells 212 (bl 64 (bitI w))], List.range 2 ++ d, List.range 17 ++ ws⟩
def L66 (st : St th.R) : Out th := match st with
  | ⟨[some (.int .u64 w), none, some (.ptr 0 0), some (.ptr 1 0), some (.int .i64 i), none, none, none, none, none, none, none, none, none, none, none, none], [z, .cells 212 l], d, ws⟩ =>
    some (.need (i = 0 ∧ l = bl 64 (fill66 w 0)) (.leaf (.exit 0, o66 w z d ws)))
  | _ => none
theorem fill66_eq (w : Int) : ∀ n j, n ≤ 64 → fill66 w n j = if j < n then bitI w j else false
  | 0, j, _ => by simp [fill66]
  | n + 1, j, h => by
    show cnd (Nat.beq (cnt n).toNat j) (bitI w n) (fill66 w n j) = _
    rw [fill66_eq w n j (by omega), cnt_eq (by omega)]
    by_cases e : n = j
    · subst e; simp [cnd]
    · have : Nat.beq ((n : Int).toNat) j = false := by
        cases hb : Nat.beq ((n : Int).toNat) j with
        | false => rfl
        | true => have := Nat.eq_of_beq_eq_true hb; simp at this; exact absurd this e
      rw [this]
      simp only [cnd]
      by_cases h1 : j < n
      · have : j < n + 1 := by omega
        simp [h1, this]
      · have : ¬ j < n + 1 := by omega
        simp [h1, this]
theorem L66_sound : CodeSound th Try.prog (.loop (lpAt Try.prog 166 0)) L66 := by
  intro st t h hok
  unfold L66 at h
  split at h
  · rename_i w i z l d ws
    cases h
    obtain ⟨⟨rfl, rfl⟩, _⟩ := hok
    refine ⟨grow_mk (Nat.le_refl _) rfl rfl rfl, fun K w0 ρ a wd Q hr hQ => ?_⟩
    refine loop_rule (show CodeSound th Try.prog (lpAt Try.prog 166 0) E66 from plain_body (tbl := fun _ => none) (fun _ _ e => by cases e) _) (N := 64) (I := i66 w z d ws) (F := o66 w z d ws) (ex := .exit 0) (fun e => by cases e) ?_ ?_ hr hQ
    · intro i hi
      have hc := cnt_eq (n := i) (by omega)
      refine goes_on (c := cnd (decide (cnt i < 64)) false true) [5, 6, 7, 8, 9, 10, 11, 12, 13, 14, 15] (by kernel_rfl) ?_ ?_ (by kernel_rfl) (by kernel_rfl) (by kernel_rfl)
      · have : decide (cnt i < 64) = true := by rw [hc]; simp; omega
        rw [this]; rfl
      · have e : (rt (ob (E66 (i66 w z d ws i)))).ok = ((2 : Int) ≠ 0 ∧ (0 ≤ cnt i ∧ cnt i < 64) ∧ (cnt i).toNat < (bl 64 (fill66 w i)).length ∧ (2 : Int) ≠ 0 ∧ True) := by kernel_rfl
        rw [e, hc]
        simp [bl]
        omega
    · have hf : bl 64 (fill66 w 64) = bl 64 (bitI w) := bl_congr fun j hj => by rw [fill66_eq w 64 j (by omega), if_pos hj]
      refine goes_out (c := cnd (decide (cnt 64 < 64)) false true) [0, 4, 5, 6] (by kernel_rfl) ?_ ?_ (by kernel_rfl) (by kernel_rfl) ?_
      · rw [cnt_eq (by omega)]; rfl
      · show (lf (ob (E66 (i66 w z d ws 64)))).ok
        have e : (lf (ob (E66 (i66 w z d ws 64)))).ok = True := by kernel_rfl
        rw [e]; trivial
      · have e : (lf (ob (E66 (i66 w z d ws 64)))).get.2.heap = [z, .cells 212 (bl 64 (fill66 w 64))] := by kernel_rfl
        exact (congrArg (fun x => [z, HO.cells 212 x]) hf.symm).trans e.symm
  · cases h
def f166 : List SV → Option (Tr SV)
  | [.int .u64 w] => some (.leaf (.agg (bl 64 (bitI w))))
  | _ => none
theorem s166 : Sound Try.prog th 166 (pureC f166) := pure_fn (tbl := fun _ => none) (H := oneLoop 3 L66) (fun _ _ e => by cases e)
  (oneLoop_ok (by kernel_rfl) (by kernel_rfl) L66_sound) fun args t h hok => by
  unfold f166 at h
  split at h
  · rename_i w
    cases h
    exact ⟨.need ((0 : Int) = 0 ∧ bl 64 (fill66 w 0) = bl 64 (fill66 w 0)) (.leaf (.agg (bl 64 (bitI w)), [], [])), by kernel_rfl, ⟨⟨rfl, rfl⟩, trivial⟩, rfl⟩
  · cases h
noncomputable def nice166 : List (Nat × CF th.R) := (166, pureC f166) :: nice118
theorem nok166 : NiceOk Try.prog th nice166 := ⟨s166, nok118⟩
end Go.Sx.M

namespace Go.Sx.M
open Go Go.Sx Go.Proofs Go.RowKit
def cd67 : Nat → Int
  | 0 => 63
  | n + 1 => IntKind.i64.wrap (cd67 n - 1)
def sel67 (f : Nat → Bool) (n : Nat) : Bool := ((List.range 64).map f).getD n false
def word67 (f : Nat → Bool) : Nat → Int
  | 0 => 0
  | n + 1 => cnd (sel67 f (cd67 n).toNat) (IntKind.u64.wrap (IntKind.u64.wrap (word67 f n * 2) + 1)) (IntKind.u64.wrap (word67 f n * 2))
noncomputable def E67 : St th.R → Out th := evCode th Try.prog (fun _ => none) (noLoops th (fun _ => none) (fun _ => false)) (lpAt Try.prog 167 0)
def i67 (f : Nat → Bool) (a : SV) (d ws : List Nat) (i : Nat) : St th.R :=
  ⟨[some a, some (.ptr 0 0), some (.int .u64 0), some (.int .u64 (word67 f i)), some (.int .i64 (cd67 i)), none, none, none, none, none, none, none, none, none, none, none, none], [.cells 212 (bl 64 f)], d, ws⟩
def o67 (f : Nat → Bool) (d ws : List Nat) : St th.R :=
  ⟨[none, none, none, some (.int .u64 (word67 f 64)), none, none, none, none, none, none, none, none, none, none, none, none, none], [.cells 212 (bl 64 f)], List.range 1 ++ d, List.range 17 ++ ws⟩
def fOf (l : List SV) : Nat → Bool := fun j => (match boolsOf l with
  | some bs => bs
  | none => []).getD j false
def L67 (st : St th.R) : Out th := match st with
  | ⟨[some a, some (.ptr 0 0), some (.int .u64 z), some (.int .u64 p), some (.int .i64 i), none, none, none, none, none, none, none, none, none, none, none, none], [.cells 212 l], d, ws⟩ =>
    some (.need (z = 0 ∧ p = 0 ∧ i = 63 ∧ l = bl 64 (fOf l)) (.leaf (.exit 0, o67 (fOf l) d ws)))
  | _ => none
theorem cd67_eq : ∀ {n : Nat}, n ≤ 64 → cd67 n = 63 - n
  | 0, _ => rfl
  | n + 1, h => by
    rw [cd67, cd67_eq (by omega), wrap_i64 (by omega) (by omega)]
    omega
theorem L67_sound : CodeSound th Try.prog (.loop (lpAt Try.prog 167 0)) L67 := by
  intro st t h hok
  unfold L67 at h
  split at h
  · rename_i a z p i l d ws
    cases h
    obtain ⟨⟨rfl, rfl, rfl, hl⟩, _⟩ := hok
    refine ⟨grow_mk (Nat.le_of_eq (by kernel_rfl)) (by kernel_rfl) (by kernel_rfl) (by kernel_rfl), fun K w0 ρ a' wd Q hr hQ => ?_⟩
    generalize fOf l = f at hl hQ
    subst hl
    refine loop_rule (show CodeSound th Try.prog (lpAt Try.prog 167 0) E67 from plain_body (tbl := fun _ => none) (fun _ _ e => by cases e) _) (N := 64) (I := i67 f a d ws) (F := o67 f d ws) (ex := .exit 0) (fun e => by cases e) ?_ ?_ hr hQ
    · intro i hi
      have hc := cd67_eq (n := i) (by omega)
      refine goes_on (c := cnd (decide (cd67 i ≥ 0)) false true) [5, 6, 7, 8, 9, 10, 11, 12, 13, 14, 15] (by kernel_rfl) ?_ ?_ (by kernel_rfl) (by kernel_rfl) (by kernel_rfl)
      · have : decide (cd67 i ≥ 0) = true := by rw [hc]; simp; omega
        rw [this]; rfl
      · have e : (rt (ob (E67 (i67 f a d ws i)))).ok = ((0 ≤ cd67 i ∧ cd67 i < 64) ∧ (cd67 i).toNat < (List.drop 0 (bl 64 f)).length ∧ True) := by kernel_rfl
        rw [e, hc]
        simp [bl]
        omega
    · refine goes_out (c := cnd (decide (cd67 64 ≥ 0)) false true) [0, 1, 2, 4, 5, 6] (by kernel_rfl) ?_ ?_ (by kernel_rfl) (by kernel_rfl) (by kernel_rfl)
      · rw [cd67_eq (by omega)]; rfl
      · have e : (lf (ob (E67 (i67 f a d ws 64)))).ok = True := by kernel_rfl
        rw [e]; trivial
  · cases h
def wordI (f : Nat → Bool) : Int := word67 f 64
def f167 : List SV → Option (Tr SV)
  | [.agg l] => match boolsOf l with
    | some bs => match Nat.decEq bs.length 64 with
      | .isTrue _ => some (.leaf (.int .u64 (wordI (fun j => bs.getD j false))))
      | .isFalse _ => none
    | none => none
  | _ => none
theorem fOf_bl (f : Nat → Bool) : bl 64 (fOf (bl 64 f)) = bl 64 f := by
  have : boolsOf (bl 64 f) = some ((List.range 64).map f) := by kernel_rfl
  unfold fOf
  rw [this]
  exact bl_congr fun j hj => by simp [List.getD_eq_getElem?_getD, hj]
theorem s167 : Sound Try.prog th 167 (pureC f167) := pure_fn (tbl := fun _ => none) (H := oneLoop 3 L67) (fun _ _ e => by cases e)
  (oneLoop_ok (by kernel_rfl) (by kernel_rfl) L67_sound) fun args t h hok => by
  unfold f167 at h
  split at h
  · rename_i l
    split at h
    · rename_i bs hbs
      split at h
      · rename_i hlen _
        cases h
        have e1 := boolsOf_eq hbs
        rw [bl_of hlen] at e1
        generalize (fun j => bs.getD j false) = f at e1 ⊢
        subst e1
        refine ⟨.need ((0 : Int) = 0 ∧ (0 : Int) = 0 ∧ (63 : Int) = 63 ∧ bl 64 f = bl 64 (fOf (bl 64 f))) (.leaf (.int .u64 (word67 (fOf (bl 64 f)) 64), [], [])), by kernel_rfl, ⟨⟨rfl, rfl, rfl, (fOf_bl f).symm⟩, trivial⟩, ?_⟩
        have : word67 (fOf (bl 64 f)) 64 = word67 f 64 := by
          have hs : ∀ n, sel67 (fOf (bl 64 f)) n = sel67 f n := by
            intro n
            have : (List.range 64).map (fOf (bl 64 f)) = (List.range 64).map f := by kernel_rfl
            unfold sel67
            rw [this]
          have : ∀ n, word67 (fOf (bl 64 f)) n = word67 f n := by
            intro n
            induction n with
            | zero => rfl
            | succ n ih => simp only [word67, ih, hs]
          exact this 64
        simp only [Tr.get, wordI, this]
      · cases h
    · cases h
  · cases h
theorem word67_congr {f g : Nat → Bool} (h : ∀ j, j < 64 → f j = g j) (n : Nat) : word67 f n = word67 g n := by
  have hs : ∀ n, sel67 f n = sel67 g n := by
    intro n
    unfold sel67
    rw [List.map_congr_left fun j hj => h j (List.mem_range.1 hj)]
  induction n with
  | zero => rfl
  | succ n ih => simp only [word67, ih, hs]
theorem wordI_congr {f g : Nat → Bool} (h : ∀ j, j < 64 → f j = g j) : wordI f = wordI g := by
  unfold wordI
  exact word67_congr h 64
noncomputable def nice167 : List (Nat × CF th.R) := (167, pureC f167) :: nice166
theorem nok167 : NiceOk Try.prog th nice167 := ⟨s167, nok166⟩
end Go.Sx.M

namespace Go.Sx.M
open Go Go.Sx Go.Proofs Go.RowKit
def us212 : List Un := [⟨173, [(2, 6)], [6]⟩]
def fill72 (f : Nat → Bool) : Nat → Nat → Bool
  | 0 => f
  | n + 1 => fun j => cnd (Nat.beq (cnt n).toNat j) false (fill72 f n j)
def down72 (f : Nat → Bool) (n : Int) (j : Nat) : Bool := if j < min n.toNat 64 then false else f j
noncomputable def E72 : St th.R → Out th := evCode th Try.prog (fun _ => none) (noLoops th (fun _ => none) (fun _ => false)) (lpAt Try.prog 212 0)
def i72 (w n : Int) (f : Nat → Bool) (d ws : List Nat) (i : Nat) : St th.R :=
  ⟨[some (.int .u64 w), some (.int .i64 n), none, none, some (.int .u64 0), some (.ptr 0 0), some (.int .i64 (cnt i)), none, none, none, none, none, none, none, none, none, none, none, none, none, none, none], [.cells 212 (bl 64 (fill72 f i))], d, ws⟩
def o72 (n : Int) (f : Nat → Bool) (d ws : List Nat) : St th.R :=
  ⟨[none, none, none, none, none, some (.ptr 0 0), none, none, none, none, none, none, none, none, none, none, none, none, none, none, none, none], [.cells 212 (bl 64 (down72 f n))], List.range 1 ++ d, List.range 22 ++ ws⟩
def fOf72 (l : List SV) : Nat → Bool := fun j => (match boolsOf l with
  | some bs => bs
  | none => []).getD j false
def L72 (st : St th.R) : Out th := match st with
  | ⟨[some (.int .u64 w), some (.int .i64 n), none, none, some (.int .u64 z), some (.ptr 0 0), some (.int .i64 i), t7, t8, none, none, none, none, none, none, none, none, none, none, none, none, none], [.cells 212 l], d, ws⟩ =>
    some (.need (z = 0 ∧ i = 0 ∧ l = bl 64 (fOf72 l)) (.leaf (.exit 0, o72 n (fOf72 l) d ws)))
  | _ => none
theorem fill72_eq (f : Nat → Bool) : ∀ n j, n ≤ 64 → fill72 f n j = if j < n then false else f j
  | 0, j, _ => by simp [fill72]
  | n + 1, j, h => by
    show cnd (Nat.beq (cnt n).toNat j) false (fill72 f n j) = _
    rw [fill72_eq f n j (by omega), cnt_eq (by omega)]
    by_cases e : n = j
    · subst e; simp [cnd]
    · have : Nat.beq ((n : Int).toNat) j = false := by
        cases hb : Nat.beq ((n : Int).toNat) j with
        | false => rfl
        | true => have := Nat.eq_of_beq_eq_true hb; simp at this; exact absurd this e
      rw [this]
      simp only [cnd]
      by_cases h1 : j < n
      · have : j < n + 1 := by omega
        simp [h1, this]
      · have : ¬ j < n + 1 := by omega
        simp [h1, this]
theorem L72_sound : CodeSound th Try.prog (.loop (lpAt Try.prog 212 0)) L72 := by
  intro st t h hok
  unfold L72 at h
  split at h
  · rename_i w n z i t7 t8 l d ws
    cases h
    obtain ⟨⟨rfl, rfl, hl⟩, _⟩ := hok
    refine ⟨grow_mk (Nat.le_of_eq (by kernel_rfl)) (by kernel_rfl) (by kernel_rfl) (by kernel_rfl), fun K w0 ρ a' wd Q hr hQ => ?_⟩
    generalize fOf72 l = f at hl hQ
    subst hl
    obtain ⟨ρ1, hp1, hr1⟩ := Wk.blank (T := th) (s := ⟨[some (.int .u64 w), some (.int .i64 n), none, none, some (.int .u64 0), some (.ptr 0 0), some (.int .i64 0), t7, t8, none, none, none, none, none, none, none, none, none, none, none, none, none], [.cells 212 (bl 64 f)], d, ws⟩) (s' := i72 w n f d ws 0) [7, 8] (by kernel_rfl) (by kernel_rfl) K w0 ρ a' wd hr
    refine loop_rule (show CodeSound th Try.prog (lpAt Try.prog 212 0) E72 from plain_body (tbl := fun _ => none) (fun _ _ e => by cases e) _) (N := min n.toNat 64) (I := i72 w n f d ws) (F := o72 n f d ws) (ex := .exit 0) (fun e => by cases e) ?_ ?_ hr1 (fun ρ' a w' hp hr' => hQ ρ' a w' (hp1.trans hp) hr')
    · intro i hi
      have hc := cnt_eq (n := i) (by omega)
      refine goes_on (c := cnd (cnd (decide (cnt i < n)) (decide (cnt i < 64)) false) false true) [9, 10, 11, 12, 13, 14, 15, 16, 17, 18, 19] (by kernel_rfl) ?_ ?_ (by kernel_rfl) (by kernel_rfl) (by kernel_rfl)
      · have h1 : decide (cnt i < n) = true := by rw [hc]; simp; omega
        have h2 : decide (cnt i < 64) = true := by rw [hc]; simp; omega
        rw [h1, h2]; rfl
      · have e : (rt (ob (E72 (i72 w n f d ws i)))).ok = ((0 ≤ cnt i ∧ cnt i < 64) ∧ (cnt i).toNat < (bl 64 (fill72 f i)).length ∧ True) := by kernel_rfl
        rw [e, hc]
        simp [bl]
        omega
    · generalize hN : min n.toNat 64 = N
      have hc := cnt_eq (n := N) (by omega)
      have hf : bl 64 (fill72 f N) = bl 64 (down72 f n) := bl_congr fun j hj => by rw [fill72_eq f N j (by omega)]; unfold down72; rw [hN]
      refine goes_out (c := cnd (cnd (decide (cnt N < n)) (decide (cnt N < 64)) false) false true) [0, 1, 4, 6, 9, 10, 11, 12, 13, 14, 15] (by kernel_rfl) ?_ ?_ (by kernel_rfl) (by kernel_rfl) ?_
      · rw [hc]
        by_cases h1 : (N : Int) < n
        · have h2 : ¬ (N : Int) < 64 := by omega
          simp [h1, h2, cnd]
        · simp [h1, cnd]
      · have e : (lf (ob (E72 (i72 w n f d ws N)))).ok = True := by kernel_rfl
        rw [e]; trivial
      · have e : (lf (ob (E72 (i72 w n f d ws N)))).get.2.heap = [.cells 212 (bl 64 (fill72 f N))] := by kernel_rfl
        exact (congrArg (fun x => [HO.cells 212 x]) hf.symm).trans e.symm
  · cases h
def downI (w n : Int) : Int := wordI (down72 (bitI w) n)
def f212 : List SV → Option (Tr SV)
  | [.int .u64 w, .int .i64 n] => some (.leaf (.int .u64 (downI w n)))
  | _ => none
theorem fOf72_bl {f : Nat → Bool} {j : Nat} (hj : j < 64) : fOf72 (bl 64 f) j = f j := by
  have : boolsOf (bl 64 f) = some ((List.range 64).map f) := by kernel_rfl
  unfold fOf72
  rw [this]
  simp [List.getD_eq_getElem?_getD, hj]
theorem s212 : Sound Try.prog th 212 (pureC f212) := pure_fn (tbl := auto th Try.prog nice167 us212 20) (H := oneLoop 3 L72) (auto_sound nok167 20)
  (oneLoop_ok (by kernel_rfl) (by kernel_rfl) L72_sound) fun args t h hok => by
  unfold f212 at h
  split at h
  · rename_i w n
    cases h
    refine ⟨.need ((0 : Int) = 0 ∧ (0 : Int) = 0 ∧ bl 64 (bitI w) = bl 64 (fOf72 (bl 64 (bitI w)))) (.leaf (.int .u64 (wordI (fun j => ((List.range 64).map (down72 (fOf72 (bl 64 (bitI w))) n)).getD j false)), [], [])), by kernel_rfl, ⟨⟨rfl, rfl, ?_⟩, trivial⟩, ?_⟩
    · exact bl_congr fun j hj => (fOf72_bl hj).symm
    · have : wordI (fun j => ((List.range 64).map (down72 (fOf72 (bl 64 (bitI w))) n)).getD j false) = downI w n := by
        unfold downI
        refine wordI_congr fun j hj => ?_
        simp only [List.getD_eq_getElem?_getD, List.getElem?_map, List.getElem?_range hj, Option.map_some, Option.getD_some]
        unfold down72
        rw [fOf72_bl hj]
      exact congrArg (fun x => (SV.int .u64 x, ([] : List (HO th.R)), ([] : List Nat))) this
  · cases h
noncomputable def nice212 : List (Nat × CF th.R) := (212, pureC f212) :: nice167
theorem nok212 : NiceOk Try.prog th nice212 := ⟨s212, nok167⟩
end Go.Sx.M

namespace Go.Sx.M
open Go Go.Sx Go.Proofs Go.RowKit
def us213 : List Un := [⟨173, [(2, 6)], [6]⟩]
def f213_0 (l : Int) : Prop := (0 : Int) ≤ l ∧ l < (4 : Int)
def f213_1 (l : Int) : Prop := l.toNat < (4 : Nat)
def f213_2 (l : Int) : Int := [(39 : Int), (30 : Int), (21 : Int), (12 : Int)].getD l.toNat (0 : Int)
def f213 : List SV → Option (Tr SV)
  | [.int .i64 l] => some (.need (0 ≤ l ∧ l < 4) (.leaf (.int .i64 (f213_2 l))))
  | _ => none
theorem s213 : Sound Try.prog th 213 (pureC f213) := pure_auto2 (us := us213) (nice := nice212) nok212 20 fun args t h => by
  unfold f213 at h
  split at h
  · rename_i l
    cases h
    refine ⟨(Tr.need (f213_0 l) (Tr.need (f213_1 l) (Tr.leaf (SV.int .i64 (f213_2 l))))), by kernel_rfl, fun ok => ?_, by kernel_rfl⟩
    first
    | (simp only [Tr.ok, true_and, and_true, forall_const, implies_true]; done)
    | (simp only [Tr.ok, true_and, and_true, forall_const, implies_true]; done)
    | (simpa only [Tr.ok, true_and, and_true, forall_const, implies_true] using ok; done)
    | (simp only [Tr.ok, f213_0, f213_1, true_and, and_true, forall_const, implies_true] at ok ⊢; grind)
  · cases h
noncomputable def nice213 : List (Nat × CF th.R) := (213, pureC f213) :: nice212
theorem nok213 : NiceOk Try.prog th nice213 := ⟨s213, nok212⟩
end Go.Sx.M

namespace Go.Sx.M
open Go Go.Sx Go.Proofs Go.RowKit
def us197 : List Un := [⟨173, [(2, 6)], [6]⟩]
def f197_0 (w : Int) (l : Int) : Prop := (281474976710656 : Int) ≠ (0 : Int)
def f197_1 (w : Int) (l : Int) : Prop := (0 : Int) ≤ l ∧ l < (4 : Int)
def f197_2 (w : Int) (l : Int) : Int := downI (w.tmod (281474976710656 : Int)) (f213_2 l)
theorem n197_0 (w : Int) (l : Int) : f197_0 w l := by
  simp only [f197_0, cnd_eq]
  grind (splits := 40)
def f197 : List SV → Option (Tr SV)
  | [.int .u64 w, .int .i64 l] => some (Tr.need (f197_1 w l) (Tr.leaf (SV.int .u64 (f197_2 w l))))
  | _ => none
theorem s197 : Sound Try.prog th 197 (pureC f197) := pure_auto2 (us := us197) (nice := nice213) nok213 20 fun args t h => by
  unfold f197 at h
  split at h
  · rename_i w l
    cases h
    refine ⟨(Tr.need (f197_0 w l) (Tr.need (f197_1 w l) (Tr.leaf (SV.int .u64 (f197_2 w l))))), by kernel_rfl, fun ok => ?_, rfl⟩
    first
    | (simp only [Tr.ok, n197_0, true_and, and_true, forall_const, implies_true]; done)
    | (simp only [Tr.ok, n197_0, true_and, and_true, forall_const, implies_true]; done)
    | (simpa only [Tr.ok, n197_0, true_and, and_true, forall_const, implies_true] using ok; done)
    | (simp only [Tr.ok, n197_0, f197_1, true_and, and_true, forall_const, implies_true] at ok ⊢; grind)
  · cases h
noncomputable def nice197 : List (Nat × CF th.R) := (197, pureC f197) :: nice213
theorem nok197 : NiceOk Try.prog th nice197 := ⟨s197, nok213⟩
end Go.Sx.M

namespace Go.Sx.M
open Go Go.Sx Go.Proofs Go.RowKit
def us177 : List Un := [⟨173, [(2, 6)], [6]⟩]
def f177_0 (w : Int) (l : Int) : Prop := cnd (decide (w < (281474976710656 : Int))) true false = true → f197_1 w l
def f177_1 (w : Int) (l : Int) : Bool := cnd (decide (w < (281474976710656 : Int))) (f197_2 w l == w) false
def f177 : List SV → Option (Tr SV)
  | [.int .u64 w, .int .i64 l] => some (Tr.need (f177_0 w l) (Tr.leaf (SV.bool (f177_1 w l))))
  | _ => none
theorem s177 : Sound Try.prog th 177 (pureC f177) := pure_auto (us := us177) (nice := nice197) nok197 20 fun args t h => by
  unfold f177 at h
  split at h
  · cases h; kernel_rfl
  · cases h
noncomputable def nice177 : List (Nat × CF th.R) := (177, pureC f177) :: nice197
theorem nok177 : NiceOk Try.prog th nice177 := ⟨s177, nok197⟩
end Go.Sx.M

namespace Go.Sx.M
open Go Go.Sx Go.Proofs Go.RowKit
def us127 : List Un := [⟨173, [(2, 6)], [6]⟩]
def f127_0 (k : Int) (a : Int) (b : Int) (r : Int) (g : Int) (s : Int) (m : Int) : Prop := decide (f176_0 k b < (0 : Int)) = false → (cnd (decide (a < (4294967296 : Int))) true false = true → f176_0 k b ≤ (4611686018427387904 : Int)) ∧ (cnd (decide (a < (4294967296 : Int))) true false = true → p26 (f176_0 k b).toNat ≠ (0 : Int)) ∧ (cnd (cnd (decide (a < (4294967296 : Int))) (a.tmod (p26 (f176_0 k b).toNat) == (0 : Int)) false) true false = true → f176_0 k b ≤ (4611686018427387904 : Int))
def f127_1 (k : Int) (a : Int) (b : Int) (r : Int) (g : Int) (s : Int) (m : Int) : Bool := cnd (decide (f176_0 k b < (0 : Int))) (cnd (f176_0 k b == (-1 : Int)) (a == (0 : Int)) false) (cnd (cnd (decide (a < (4294967296 : Int))) (a.tmod (p26 (f176_0 k b).toNat) == (0 : Int)) false) (decide (IntKind.u64.wrap (a + p26 (f176_0 k b).toNat) ≤ (4294967296 : Int))) false)
theorem n127_0 (k : Int) (a : Int) (b : Int) (r : Int) (g : Int) (s : Int) (m : Int) : f127_0 k a b r g s m := by
  simp only [f127_0, cnd_eq]
  grind (splits := 40) [b30, p26_ne]
def f127 : List SV → Option (Tr SV)
  | [.agg [.int .i64 k, .int .u64 a, .int .i64 b, .int .i64 r, .int .i64 g, .int .i64 s, .int .u64 m]] => some (Tr.leaf (SV.bool (f127_1 k a b r g s m)))
  | _ => none
theorem s127 : Sound Try.prog th 127 (pureC f127) := pure_auto2 (us := us127) (nice := nice177) nok177 20 fun args t h => by
  unfold f127 at h
  split at h
  · rename_i k a b r g s m
    cases h
    refine ⟨(Tr.need (f127_0 k a b r g s m) (Tr.leaf (SV.bool (f127_1 k a b r g s m)))), by kernel_rfl, fun ok => ?_, rfl⟩
    first
    | (simp only [Tr.ok, n127_0, true_and, and_true, forall_const, implies_true]; done)
    | (simp only [Tr.ok, n127_0, true_and, and_true, forall_const, implies_true]; done)
    | (simpa only [Tr.ok, n127_0, true_and, and_true, forall_const, implies_true] using ok; done)
    | (simp only [Tr.ok, n127_0, true_and, and_true, forall_const, implies_true] at ok ⊢; grind)
  · cases h
noncomputable def nice127 : List (Nat × CF th.R) := (127, pureC f127) :: nice177
theorem nok127 : NiceOk Try.prog th nice127 := ⟨s127, nok177⟩
end Go.Sx.M

namespace Go.Sx.M
open Go Go.Sx Go.Proofs Go.RowKit
def us128 : List Un := [⟨173, [(2, 6)], [6]⟩]
def f128_0 (k : Int) (a : Int) (b : Int) (r : Int) (g : Int) (s : Int) (m : Int) : Prop := (k == (1 : Int)) = true → (true = true → b ≤ (4611686018427387904 : Int)) ∧ (cnd (decide (m ≤ p26 b.toNat)) true false = true → (32 : Int) ≠ (0 : Int))
def f128_1 (k : Int) (a : Int) (b : Int) (r : Int) (g : Int) (s : Int) (m : Int) : Prop := (k == (1 : Int)) = false → (k == (2 : Int)) = true → cnd (cnd (cnd (decide (g ≥ (0 : Int))) (decide (g ≤ (63 : Int))) false) (decide (g ≤ IntKind.i64.wrap ((64 : Int) - b))) false) true false = true → g ≤ (4611686018427387904 : Int)
def f128_2 (k : Int) (a : Int) (b : Int) (r : Int) (g : Int) (s : Int) (m : Int) : Prop := (k == (1 : Int)) = false → (k == (2 : Int)) = false → cnd (k == (4 : Int)) (s == (0 : Int)) false = false → (k == (4 : Int)) = true → cnd (cnd (decide (g ≥ (1 : Int))) (decide (g ≤ (3 : Int))) false) true false = true → f177_0 m (IntKind.i64.wrap (g - (1 : Int)))
def f128_3 (k : Int) (a : Int) (b : Int) (r : Int) (g : Int) (s : Int) (m : Int) : Prop := (k == (1 : Int)) = false → (k == (2 : Int)) = false → cnd (k == (4 : Int)) (s == (0 : Int)) false = false → (k == (4 : Int)) = false → (g != (0 : Int)) = false → cnd (k == (3 : Int)) (s != (0 : Int)) false = true → f177_0 m (cnd (b == (30 : Int)) (1 : Int) (cnd (b == (21 : Int)) (2 : Int) (3 : Int)))
def f128_4 (k : Int) (a : Int) (b : Int) (r : Int) (g : Int) (s : Int) (m : Int) : Prop := (k == (1 : Int)) = false → (k == (2 : Int)) = false → cnd (k == (4 : Int)) (s == (0 : Int)) false = false → (k == (4 : Int)) = false → (g != (0 : Int)) = false → cnd (k == (3 : Int)) (s != (0 : Int)) false = false → (k == (7 : Int)) = false → (k == (9 : Int)) = false → (k == (10 : Int)) = true → true = true → b ≤ (4611686018427387904 : Int)
def f128_5 (k : Int) (a : Int) (b : Int) (r : Int) (g : Int) (s : Int) (m : Int) : Bool := cnd (k == (1 : Int)) (cnd (cnd (decide (m ≤ p26 b.toNat)) (m.tmod (32 : Int) == (0 : Int)) false) (g == (0 : Int)) false) (cnd (k == (2 : Int)) (cnd (cnd (cnd (decide (g ≥ (0 : Int))) (decide (g ≤ (63 : Int))) false) (decide (g ≤ IntKind.i64.wrap ((64 : Int) - b))) false) (decide (m < p26 g.toNat)) false) (cnd (cnd (k == (4 : Int)) (s == (0 : Int)) false) (cnd (g == (0 : Int)) (m == (0 : Int)) false) (cnd (k == (4 : Int)) (cnd (cnd (decide (g ≥ (1 : Int))) (decide (g ≤ (3 : Int))) false) (f177_1 m (IntKind.i64.wrap (g - (1 : Int)))) false) (cnd (g != (0 : Int)) false (cnd (cnd (k == (3 : Int)) (s != (0 : Int)) false) (f177_1 m (cnd (b == (30 : Int)) (1 : Int) (cnd (b == (21 : Int)) (2 : Int) (3 : Int)))) (cnd (k == (7 : Int)) (decide (m < (8 : Int))) (cnd (k == (9 : Int)) true (cnd (k == (10 : Int)) (decide (m ≤ p26 b.toNat)) (m == (0 : Int))))))))))
theorem n128_1 (k : Int) (a : Int) (b : Int) (r : Int) (g : Int) (s : Int) (m : Int) : f128_1 k a b r g s m := by
  simp only [f128_1, f177_0, f197_0, f197_1, cnd_eq]
  grind (splits := 40) [wrap_i64]
theorem n128_2 (k : Int) (a : Int) (b : Int) (r : Int) (g : Int) (s : Int) (m : Int) : f128_2 k a b r g s m := by
  simp only [f128_2, f177_0, f197_0, f197_1, cnd_eq]
  grind (splits := 40) [wrap_i64]
theorem n128_3 (k : Int) (a : Int) (b : Int) (r : Int) (g : Int) (s : Int) (m : Int) : f128_3 k a b r g s m := by
  simp only [f128_3, f177_0, f197_0, f197_1, cnd_eq]
  grind (splits := 40) [wrap_i64]
def f128 : List SV → Option (Tr SV)
  | [.agg [.int .i64 k, .int .u64 a, .int .i64 b, .int .i64 r, .int .i64 g, .int .i64 s, .int .u64 m]] => some (Tr.need (f128_0 k a b r g s m) (Tr.need (f128_4 k a b r g s m) (Tr.leaf (SV.bool (f128_5 k a b r g s m)))))
  | _ => none
theorem s128 : Sound Try.prog th 128 (pureC f128) := pure_auto2 (us := us128) (nice := nice127) nok127 20 fun args t h => by
  unfold f128 at h
  split at h
  · rename_i k a b r g s m
    cases h
    refine ⟨(Tr.need (f128_0 k a b r g s m) (Tr.need (f128_1 k a b r g s m) (Tr.need (f128_2 k a b r g s m) (Tr.need (f128_3 k a b r g s m) (Tr.need (f128_4 k a b r g s m) (Tr.leaf (SV.bool (f128_5 k a b r g s m)))))))), by kernel_rfl, fun ok => ?_, rfl⟩
    first
    | (simp only [Tr.ok, n128_1, n128_2, n128_3, true_and, and_true, forall_const, implies_true]; done)
    | (simp only [Tr.ok, n128_1, n128_2, n128_3, true_and, and_true, forall_const, implies_true]; done)
    | (simpa only [Tr.ok, n128_1, n128_2, n128_3, true_and, and_true, forall_const, implies_true] using ok; done)
    | (simp only [Tr.ok, n128_1, n128_2, n128_3, f128_0, f128_4, true_and, and_true, forall_const, implies_true] at ok ⊢; grind)
  · cases h
noncomputable def nice128 : List (Nat × CF th.R) := (128, pureC f128) :: nice127
theorem nok128 : NiceOk Try.prog th nice128 := ⟨s128, nok127⟩
end Go.Sx.M

namespace Go.Sx.M
open Go Go.Sx Go.Proofs Go.RowKit
def us50 : List Un := [⟨173, [(2, 6)], [6]⟩]
def f50_0 (k : Int) (a : Int) (b : Int) (r : Int) (g : Int) (s : Int) (m : Int) : Prop := cnd (cnd (cnd (!f127_1 k a b r g s m) true !f118_0 r) true (decide (s < (0 : Int)))) true (decide (s > (4095 : Int))) = false → cnd (cnd (r != (0 : Int)) (k != (3 : Int)) false) (cnd (k != (9 : Int)) true (decide (r > (3 : Int)))) false = false → cnd (cnd (cnd (s != (0 : Int)) (k != (3 : Int)) false) (k != (4 : Int)) false) (k != (5 : Int)) false = false → f128_0 k a b r g s m
def f50_1 (k : Int) (a : Int) (b : Int) (r : Int) (g : Int) (s : Int) (m : Int) : Prop := cnd (cnd (cnd (!f127_1 k a b r g s m) true !f118_0 r) true (decide (s < (0 : Int)))) true (decide (s > (4095 : Int))) = false → cnd (cnd (r != (0 : Int)) (k != (3 : Int)) false) (cnd (k != (9 : Int)) true (decide (r > (3 : Int)))) false = false → cnd (cnd (cnd (s != (0 : Int)) (k != (3 : Int)) false) (k != (4 : Int)) false) (k != (5 : Int)) false = false → f128_4 k a b r g s m
def f50_2 (k : Int) (a : Int) (b : Int) (r : Int) (g : Int) (s : Int) (m : Int) : Bool := cnd (cnd (cnd (cnd (!f127_1 k a b r g s m) true !f118_0 r) true (decide (s < (0 : Int)))) true (decide (s > (4095 : Int)))) false (cnd (cnd (cnd (r != (0 : Int)) (k != (3 : Int)) false) (cnd (k != (9 : Int)) true (decide (r > (3 : Int)))) false) false (cnd (cnd (cnd (cnd (s != (0 : Int)) (k != (3 : Int)) false) (k != (4 : Int)) false) (k != (5 : Int)) false) false (f128_5 k a b r g s m)))
theorem n50_0 (k : Int) (a : Int) (b : Int) (r : Int) (g : Int) (s : Int) (m : Int) : f50_0 k a b r g s m := by
  simp only [f50_0, f127_1, f128_0, f128_1, f128_2, f128_3, f128_4, f176_0, cnd_eq]
  grind (splits := 40) [wrap_i64]
theorem n50_1 (k : Int) (a : Int) (b : Int) (r : Int) (g : Int) (s : Int) (m : Int) : f50_1 k a b r g s m := by
  simp only [f50_1, f127_1, f128_0, f128_1, f128_2, f128_3, f128_4, f176_0, cnd_eq]
  grind (splits := 40) [wrap_i64]
def f50 : List SV → Option (Tr SV)
  | [.agg [.int .i64 k, .int .u64 a, .int .i64 b, .int .i64 r, .int .i64 g, .int .i64 s, .int .u64 m]] => some (Tr.leaf (SV.bool (f50_2 k a b r g s m)))
  | _ => none
theorem s50 : Sound Try.prog th 50 (pureC f50) := pure_auto2 (us := us50) (nice := nice128) nok128 20 fun args t h => by
  unfold f50 at h
  split at h
  · rename_i k a b r g s m
    cases h
    refine ⟨(Tr.need (f50_0 k a b r g s m) (Tr.need (f50_1 k a b r g s m) (Tr.leaf (SV.bool (f50_2 k a b r g s m))))), by kernel_rfl, fun ok => ?_, rfl⟩
    first
    | (simp only [Tr.ok, n50_0, n50_1, true_and, and_true, forall_const, implies_true]; done)
    | (simp only [Tr.ok, n50_0, n50_1, true_and, and_true, forall_const, implies_true]; done)
    | (simpa only [Tr.ok, n50_0, n50_1, true_and, and_true, forall_const, implies_true] using ok; done)
    | (simp only [Tr.ok, n50_0, n50_1, true_and, and_true, forall_const, implies_true] at ok ⊢; grind)
  · cases h
noncomputable def nice50 : List (Nat × CF th.R) := (50, pureC f50) :: nice128
theorem nok50 : NiceOk Try.prog th nice50 := ⟨s50, nok128⟩
end Go.Sx.M

namespace Go.Sx.M
open Go Go.Sx Go.Proofs Go.RowKit
def us160 : List Un := [⟨173, [(2, 6)], [6]⟩]
def f160_0 (k : Int) (a : Int) (b : Int) (r : Int) (g : Int) (s : Int) (m : Int) : Prop := (true = true → (4 : Int) ≤ (4611686018427387904 : Int)) ∧ (true = true → (10 : Int) ≤ (4611686018427387904 : Int)) ∧ (true = true → (13 : Int) ≤ (4611686018427387904 : Int)) ∧ (true = true → (19 : Int) ≤ (4611686018427387904 : Int))
def f160_1 (k : Int) (a : Int) (b : Int) (r : Int) (g : Int) (s : Int) (m : Int) : Prop := (true = true → (32 : Int) ≠ (0 : Int)) ∧ (true = true → (35 : Int) ≤ (4611686018427387904 : Int))
def f160_2 (k : Int) (a : Int) (b : Int) (r : Int) (g : Int) (s : Int) (m : Int) : Int := IntKind.u64.wrap (IntKind.u64.wrap (IntKind.u64.wrap (IntKind.u64.wrap (IntKind.u64.wrap (IntKind.u64.wrap k + IntKind.u64.wrap (IntKind.u64.wrap b * (16 : Int))) + IntKind.u64.wrap (IntKind.u64.wrap r * (1024 : Int))) + IntKind.u64.wrap (IntKind.u64.wrap g * (8192 : Int))) + IntKind.u64.wrap (IntKind.u64.wrap s * (524288 : Int))) + IntKind.u64.wrap (IntKind.u64.wrap (a.tdiv (32 : Int)) * (34359738368 : Int)))
theorem n160_0 (k : Int) (a : Int) (b : Int) (r : Int) (g : Int) (s : Int) (m : Int) : f160_0 k a b r g s m := by
  simp only [f160_0, cnd_eq]
  grind (splits := 40)
theorem n160_1 (k : Int) (a : Int) (b : Int) (r : Int) (g : Int) (s : Int) (m : Int) : f160_1 k a b r g s m := by
  simp only [f160_1, cnd_eq]
  grind (splits := 40)
def f160 : List SV → Option (Tr SV)
  | [.agg [.int .i64 k, .int .u64 a, .int .i64 b, .int .i64 r, .int .i64 g, .int .i64 s, .int .u64 m]] => some (Tr.leaf (SV.int .u64 (f160_2 k a b r g s m)))
  | _ => none
theorem s160 : Sound Try.prog th 160 (pureC f160) := pure_auto2 (us := us160) (nice := nice50) nok50 20 fun args t h => by
  unfold f160 at h
  split at h
  · rename_i k a b r g s m
    cases h
    refine ⟨(Tr.need (f160_0 k a b r g s m) (Tr.need (f160_1 k a b r g s m) (Tr.leaf (SV.int .u64 (f160_2 k a b r g s m))))), by kernel_rfl, fun ok => ?_, rfl⟩
    first
    | (simp only [Tr.ok, n160_0, n160_1, true_and, and_true, forall_const, implies_true]; done)
    | (simp only [Tr.ok, n160_0, n160_1, true_and, and_true, forall_const, implies_true]; done)
    | (simpa only [Tr.ok, n160_0, n160_1, true_and, and_true, forall_const, implies_true] using ok; done)
    | (simp only [Tr.ok, n160_0, n160_1, true_and, and_true, forall_const, implies_true] at ok ⊢; grind)
  · cases h
noncomputable def nice160 : List (Nat × CF th.R) := (160, pureC f160) :: nice50
theorem nok160 : NiceOk Try.prog th nice160 := ⟨s160, nok50⟩
end Go.Sx.M

namespace Go.Sx.M
open Go Go.Sx Go.Proofs Go.RowKit
def us25 : List Un := [⟨173, [(2, 6)], [6]⟩]
def f25_0 (k : Int) (b : Int) : Int := cnd (cnd (k == (1 : Int)) (cnd (decide (b ≥ (5 : Int))) (decide (b ≤ (32 : Int))) false) false) b (cnd (k == (1 : Int)) (-2 : Int) (cnd (cnd (k == (2 : Int)) (cnd (decide (b ≥ (1 : Int))) (decide (b ≤ (12 : Int))) false) false) (IntKind.i64.wrap (b + (5 : Int))) (cnd (k == (2 : Int)) (-2 : Int) (cnd (cnd (k == (3 : Int)) (cnd (cnd (b == (12 : Int)) true (b == (21 : Int))) true (b == (30 : Int))) false) b (cnd (k == (3 : Int)) (-2 : Int) (cnd (cnd (k == (9 : Int)) (5 : Int) (cnd (k == (8 : Int)) (7 : Int) (cnd (cnd (k == (4 : Int)) true (k == (5 : Int))) (12 : Int) (0 : Int))) == (0 : Int)) (-1 : Int) (cnd (b != (0 : Int)) (-2 : Int) (cnd (k == (9 : Int)) (5 : Int) (cnd (k == (8 : Int)) (7 : Int) (cnd (cnd (k == (4 : Int)) true (k == (5 : Int))) (12 : Int) (0 : Int)))))))))))
def f25 : List SV → Option (Tr SV)
  | [.int .i64 k, .int .i64 b] => some (Tr.leaf (SV.int .i64 (f25_0 k b)))
  | _ => none
theorem s25 : Sound Try.prog th 25 (pureC f25) := pure_auto (us := us25) (nice := nice160) nok160 20 fun args t h => by
  unfold f25 at h
  split at h
  · cases h; kernel_rfl
  · cases h
noncomputable def nice25 : List (Nat × CF th.R) := (25, pureC f25) :: nice160
theorem nok25 : NiceOk Try.prog th nice25 := ⟨s25, nok160⟩
end Go.Sx.M

namespace Go.Sx.M
open Go Go.Sx Go.Proofs Go.RowKit
def us191 : List Un := [⟨173, [(2, 6)], [6]⟩]
def f191_0 (k : Int) (b : Int) : Int := cnd (cnd (k == (1 : Int)) (k == (1 : Int)) (k == (2 : Int))) k (cnd (k == (3 : Int)) k (cnd (cnd (k == (9 : Int)) false (cnd (k == (8 : Int)) false (cnd (cnd (k == (4 : Int)) (k == (4 : Int)) (k == (5 : Int))) false true))) (0 : Int) (cnd (b != (0 : Int)) (cnd (k == (9 : Int)) k (cnd (k == (8 : Int)) k k)) (cnd (k == (9 : Int)) k (cnd (k == (8 : Int)) k k)))))
def f191_1 (k : Int) (b : Int) : Int := cnd (cnd (k == (1 : Int)) (k == (1 : Int)) (k == (2 : Int))) (0 : Int) (cnd (k == (3 : Int)) (0 : Int) (cnd (cnd (k == (9 : Int)) false (cnd (k == (8 : Int)) false (cnd (cnd (k == (4 : Int)) (k == (4 : Int)) (k == (5 : Int))) false true))) (0 : Int) (cnd (b != (0 : Int)) (cnd (k == (9 : Int)) (0 : Int) (cnd (k == (8 : Int)) (0 : Int) (0 : Int))) (cnd (k == (9 : Int)) (0 : Int) (cnd (k == (8 : Int)) (0 : Int) (0 : Int))))))
def f191_2 (k : Int) (b : Int) : Int := cnd (cnd (k == (1 : Int)) (k == (1 : Int)) (k == (2 : Int))) b (cnd (k == (3 : Int)) b (cnd (cnd (k == (9 : Int)) false (cnd (k == (8 : Int)) false (cnd (cnd (k == (4 : Int)) (k == (4 : Int)) (k == (5 : Int))) false true))) (0 : Int) (cnd (b != (0 : Int)) (-1 : Int) (cnd (k == (9 : Int)) (5 : Int) (cnd (k == (8 : Int)) (7 : Int) (12 : Int))))))
def f191_3 (k : Int) (b : Int) : Int := cnd (cnd (k == (1 : Int)) (k == (1 : Int)) (k == (2 : Int))) (0 : Int) (cnd (k == (3 : Int)) (7 : Int) (cnd (cnd (k == (9 : Int)) false (cnd (k == (8 : Int)) false (cnd (cnd (k == (4 : Int)) (k == (4 : Int)) (k == (5 : Int))) false true))) (0 : Int) (cnd (b != (0 : Int)) (cnd (k == (9 : Int)) (3 : Int) (cnd (k == (8 : Int)) (0 : Int) (0 : Int))) (cnd (k == (9 : Int)) (3 : Int) (cnd (k == (8 : Int)) (0 : Int) (0 : Int))))))
def f191_4 (k : Int) (b : Int) : Bool := cnd (cnd (k == (1 : Int)) (k == (1 : Int)) (k == (2 : Int))) true (cnd (k == (3 : Int)) true (cnd (cnd (k == (9 : Int)) false (cnd (k == (8 : Int)) false (cnd (cnd (k == (4 : Int)) (k == (4 : Int)) (k == (5 : Int))) false true))) false true))
def f191 : List SV → Option (Tr SV)
  | [.int .i64 k, .int .i64 b] => some (Tr.leaf (SV.tup [SV.agg [SV.int .i64 (f191_0 k b), SV.int .u64 (f191_1 k b), SV.int .i64 (f191_2 k b), SV.int .i64 (f191_3 k b), SV.int .i64 (f191_1 k b), SV.int .i64 (f191_1 k b), SV.int .u64 (f191_1 k b)], SV.bool (f191_4 k b)]))
  | _ => none
theorem s191 : Sound Try.prog th 191 (pureC f191) := pure_auto (us := us191) (nice := nice25) nok25 20 fun args t h => by
  unfold f191 at h
  split at h
  · cases h; kernel_rfl
  · cases h
noncomputable def nice191 : List (Nat × CF th.R) := (191, pureC f191) :: nice25
theorem nok191 : NiceOk Try.prog th nice191 := ⟨s191, nok25⟩
end Go.Sx.M

namespace Go.Sx.M
open Go Go.Sx Go.Proofs Go.RowKit
def us161 : List Un := [⟨173, [(2, 6)], [6]⟩]
def f161_0 (k : Int) (b : Int) : Int := cnd (!f191_4 k b) (f191_0 k b) (cnd (!f45_1 (f191_0 k b) (f191_1 k b) (f191_2 k b) (f191_3 k b) (f191_1 k b) (f191_1 k b) (f191_1 k b)) (f191_0 k b) (f191_0 k b))
def f161_1 (k : Int) (b : Int) : Int := cnd (!f191_4 k b) (f191_1 k b) (cnd (!f45_1 (f191_0 k b) (f191_1 k b) (f191_2 k b) (f191_3 k b) (f191_1 k b) (f191_1 k b) (f191_1 k b)) (f191_1 k b) (f191_1 k b))
def f161_2 (k : Int) (b : Int) : Int := cnd (!f191_4 k b) (f191_2 k b) (cnd (!f45_1 (f191_0 k b) (f191_1 k b) (f191_2 k b) (f191_3 k b) (f191_1 k b) (f191_1 k b) (f191_1 k b)) (f191_2 k b) (f191_2 k b))
def f161_3 (k : Int) (b : Int) : Int := cnd (!f191_4 k b) (f191_3 k b) (cnd (!f45_1 (f191_0 k b) (f191_1 k b) (f191_2 k b) (f191_3 k b) (f191_1 k b) (f191_1 k b) (f191_1 k b)) (f191_3 k b) (f191_3 k b))
def f161_4 (k : Int) (b : Int) : Int := cnd (!f191_4 k b) (20 : Int) (cnd (!f45_1 (f191_0 k b) (f191_1 k b) (f191_2 k b) (f191_3 k b) (f191_1 k b) (f191_1 k b) (f191_1 k b)) (11 : Int) (0 : Int))
def f161 : List SV → Option (Tr SV)
  | [.int .i64 k, .int .i64 b] => some (Tr.leaf (SV.tup [SV.agg [SV.int .i64 (f161_0 k b), SV.int .u64 (f161_1 k b), SV.int .i64 (f161_2 k b), SV.int .i64 (f161_3 k b), SV.int .i64 (f161_1 k b), SV.int .i64 (f161_1 k b), SV.int .u64 (f161_1 k b)], SV.int .i64 (f161_4 k b)]))
  | _ => none
theorem s161 : Sound Try.prog th 161 (pureC f161) := pure_auto (us := us161) (nice := nice191) nok191 20 fun args t h => by
  unfold f161 at h
  split at h
  · cases h; kernel_rfl
  · cases h
noncomputable def nice161 : List (Nat × CF th.R) := (161, pureC f161) :: nice191
theorem nok161 : NiceOk Try.prog th nice161 := ⟨s161, nok191⟩
end Go.Sx.M

namespace Go.Sx.M
open Go Go.Sx Go.Proofs Go.RowKit
def us95 : List Un := [⟨173, [(2, 6)], [6]⟩]
def f95_0 (k : Int) (b : Int) (n : Int) : Prop := (f161_4 k b != (0 : Int)) = false → cnd (decide (n < (1 : Int))) true (decide (n > (64 : Int))) = false → (0 : Int) ≤ f162_0 (f161_0 k b) (f161_1 k b) (f161_2 k b) (f161_3 k b) (f161_1 k b) (f161_1 k b) (f161_1 k b)
def f95_1 (k : Int) (b : Int) (n : Int) : Int := cnd (f161_4 k b != (0 : Int)) (0 : Int) (cnd (cnd (decide (n < (1 : Int))) true (decide (n > (64 : Int)))) (0 : Int) (IntKind.u64.wrap (IntKind.u64.wrap n * (2 : Int) ^ Min.min (f162_0 (f161_0 k b) (f161_1 k b) (f161_2 k b) (f161_3 k b) (f161_1 k b) (f161_1 k b) (f161_1 k b)).toNat IntKind.u64.bits)))
def f95_2 (k : Int) (b : Int) (n : Int) : Int := cnd (f161_4 k b != (0 : Int)) (f161_4 k b) (cnd (cnd (decide (n < (1 : Int))) true (decide (n > (64 : Int)))) (12 : Int) (0 : Int))
def f95 : List SV → Option (Tr SV)
  | [.int .i64 k, .int .i64 b, .int .i64 n] => some (Tr.need (f95_0 k b n) (Tr.leaf (SV.tup [SV.int .u64 (f95_1 k b n), SV.int .i64 (f95_2 k b n)])))
  | _ => none
theorem s95 : Sound Try.prog th 95 (pureC f95) := pure_auto (us := us95) (nice := nice161) nok161 20 fun args t h => by
  unfold f95 at h
  split at h
  · cases h; kernel_rfl
  · cases h
noncomputable def nice95 : List (Nat × CF th.R) := (95, pureC f95) :: nice161
theorem nok95 : NiceOk Try.prog th nice95 := ⟨s95, nok161⟩
end Go.Sx.M

namespace Go.Sx.M
open Go Go.Sx Go.Proofs Go.RowKit
def us97 : List Un := [⟨173, [(2, 6)], [6]⟩]
def f97_0 (k : Int) (b : Int) : Int := cnd (f161_4 k b != (0 : Int)) (0 : Int) (f162_0 (f161_0 k b) (f161_1 k b) (f161_2 k b) (f161_3 k b) (f161_1 k b) (f161_1 k b) (f161_1 k b))
def f97_1 (k : Int) (b : Int) : Bool := cnd (f161_4 k b != (0 : Int)) false true
def f97 : List SV → Option (Tr SV)
  | [.int .i64 k, .int .i64 b] => some (Tr.leaf (SV.tup [SV.int .i64 (f97_0 k b), SV.bool (f97_1 k b)]))
  | _ => none
theorem s97 : Sound Try.prog th 97 (pureC f97) := pure_auto (us := us97) (nice := nice95) nok95 20 fun args t h => by
  unfold f97 at h
  split at h
  · cases h; kernel_rfl
  · cases h
noncomputable def nice97 : List (Nat × CF th.R) := (97, pureC f97) :: nice95
theorem nok97 : NiceOk Try.prog th nice97 := ⟨s97, nok95⟩
end Go.Sx.M

namespace Go.Sx.M
open Go Go.Sx Go.Proofs Go.RowKit
def us106 : List Un := [⟨173, [(2, 6)], [6]⟩]
def sel54 (f : Nat → Bool) (n : Nat) : Bool := ((List.range 64).map f).getD n false
def fill54 (f : Nat → Bool) (lo : Int) : Nat → Nat → Bool
  | 0 => fun _ => false
  | n + 1 => fun j => cnd (Nat.beq (cnt n).toNat j) (sel54 f (IntKind.i64.wrap (lo + cnt n)).toNat) (fill54 f lo n j)
def get54 (f : Nat → Bool) (lo wi : Int) (j : Nat) : Bool := if j < wi.toNat then f (lo.toNat + j) else false
noncomputable def E54 : St th.R → Out th := evCode th Try.prog (fun _ => none) (noLoops th (fun _ => none) (fun _ => false)) (lpAt Try.prog 106 0)
def i54 (w lo wi : Int) (f : Nat → Bool) (d ws : List Nat) (i : Nat) : St th.R :=
  ⟨[some (.int .u64 w), some (.int .i64 lo), some (.int .i64 wi), none, none, none, some (.int .u64 0), some (.ptr 0 0), some (.ptr 1 0), some (.int .i64 (cnt i)), none, none, none, none, none, none, none, none, none, none, none, none, none, none, none, none], [.cells 212 (bl 64 f), .cells 212 (bl 64 (fill54 f lo i))], d, ws⟩
def o54 (lo wi : Int) (f : Nat → Bool) (d ws : List Nat) : St th.R :=
  ⟨[none, none, none, none, none, none, none, none, some (.ptr 1 0), none, none, none, none, none, none, none, none, none, none, none, none, none, none, none, none, none], [.cells 212 (bl 64 f), .cells 212 (bl 64 (get54 f lo wi))], List.range 2 ++ d, List.range 26 ++ ws⟩
def L54 (st : St th.R) : Out th := match st with
  | ⟨[some (.int .u64 w), some (.int .i64 lo), some (.int .i64 wi), none, none, none, some (.int .u64 z), some (.ptr 0 0), some (.ptr 1 0), some (.int .i64 i), t10, t11, none, none, none, none, none, none, none, none, none, none, none, none, none, none], [.cells 212 l, .cells 212 m], d, ws⟩ =>
    some (.need ((z = 0 ∧ i = 0 ∧ l = bl 64 (fOf72 l) ∧ m = bl 64 (fun _ => false)) ∧ 0 ≤ lo ∧ 0 ≤ wi ∧ lo + wi ≤ 64) (.leaf (.exit 0, o54 lo wi (fOf72 l) d ws)))
  | _ => none
theorem fill54_eq (f : Nat → Bool) {lo wi : Int} (h0 : 0 ≤ lo) (h1 : lo + wi ≤ 64) : ∀ (n j : Nat), (n : Int) ≤ wi → fill54 f lo n j = if j < n then f (lo.toNat + j) else false
  | 0, j, _ => by simp [fill54]
  | n + 1, j, h => by
    show cnd (Nat.beq (cnt n).toNat j) (sel54 f (IntKind.i64.wrap (lo + cnt n)).toNat) (fill54 f lo n j) = _
    rw [fill54_eq f h0 h1 n j (by omega), cnt_eq (by omega), wrap_i64 (by omega) (by omega)]
    by_cases e : n = j
    · subst e
      have e2 : (lo + (n : Int)).toNat = lo.toNat + n := by omega
      have e3 : lo.toNat + n < 64 := by omega
      simp [cnd, sel54, e2, List.getD_eq_getElem?_getD, e3]
    · have : Nat.beq ((n : Int).toNat) j = false := by
        cases hb : Nat.beq ((n : Int).toNat) j with
        | false => rfl
        | true => have := Nat.eq_of_beq_eq_true hb; simp at this; exact absurd this e
      rw [this]
      simp only [cnd]
      by_cases h1 : j < n
      · have : j < n + 1 := by omega
        simp [h1, this]
      · have : ¬ j < n + 1 := by omega
        simp [h1, this]
theorem L54_sound : CodeSound th Try.prog (.loop (lpAt Try.prog 106 0)) L54 := by
  intro st t h hok
  unfold L54 at h
  split at h
  · rename_i w lo wi z i t10 t11 l m d ws
    cases h
    obtain ⟨⟨⟨rfl, rfl, hl, rfl⟩, hlo, hwi, hlw⟩, _⟩ := hok
    refine ⟨grow_mk (Nat.le_of_eq (by kernel_rfl)) (by kernel_rfl) (by kernel_rfl) (by kernel_rfl), fun K w0 ρ a' wd Q hr hQ => ?_⟩
    generalize fOf72 l = f at hl hQ
    subst hl
    obtain ⟨ρ1, hp1, hr1⟩ := Wk.blank (T := th) (s := ⟨[some (.int .u64 w), some (.int .i64 lo), some (.int .i64 wi), none, none, none, some (.int .u64 0), some (.ptr 0 0), some (.ptr 1 0), some (.int .i64 0), t10, t11, none, none, none, none, none, none, none, none, none, none, none, none, none, none], [.cells 212 (bl 64 f), .cells 212 (bl 64 (fun _ => false))], d, ws⟩) (s' := i54 w lo wi f d ws 0) [10, 11] (by kernel_rfl) (by kernel_rfl) K w0 ρ a' wd hr
    refine loop_rule (show CodeSound th Try.prog (lpAt Try.prog 106 0) E54 from plain_body (tbl := fun _ => none) (fun _ _ e => by cases e) _) (N := wi.toNat) (I := i54 w lo wi f d ws) (F := o54 lo wi f d ws) (ex := .exit 0) (fun e => by cases e) ?_ ?_ hr1 (fun ρ' a w' hp hr' => hQ ρ' a w' (hp1.trans hp) hr')
    · intro i hi
      have hc := cnt_eq (n := i) (by omega)
      have hwr : IntKind.i64.wrap (lo + cnt i) = lo + i := by rw [hc, wrap_i64 (by omega) (by omega)]
      refine goes_on (c := cnd (decide (cnt i < wi)) false true) [12, 13, 14, 15, 16, 17, 18, 19, 20, 21, 22, 23] (by kernel_rfl) ?_ ?_ (by kernel_rfl) (by kernel_rfl) (by kernel_rfl)
      · have h1 : decide (cnt i < wi) = true := by rw [hc]; simp; omega
        rw [h1]; rfl
      · have e : (rt (ob (E54 (i54 w lo wi f d ws i)))).ok = ((0 ≤ IntKind.i64.wrap (lo + cnt i) ∧ IntKind.i64.wrap (lo + cnt i) < 64) ∧ (IntKind.i64.wrap (lo + cnt i)).toNat < (List.drop 0 (bl 64 f)).length ∧ (0 ≤ cnt i ∧ cnt i < 64) ∧ (cnt i).toNat < (bl 64 (fill54 f lo i)).length ∧ True) := by kernel_rfl
        rw [e, hwr, hc]
        simp [bl]
        omega
    · generalize hN : wi.toNat = N
      have hc := cnt_eq (n := N) (by omega)
      have hf : bl 64 (fill54 f lo N) = bl 64 (get54 f lo wi) := bl_congr fun j hj => by rw [fill54_eq f hlo hlw N j (by omega)]; unfold get54; rw [hN]
      refine goes_out (c := cnd (decide (cnt N < wi)) false true) [0, 1, 2, 6, 7, 9, 12, 13, 14] (by kernel_rfl) ?_ ?_ (by kernel_rfl) (by kernel_rfl) ?_
      · have : decide (cnt N < wi) = false := by rw [hc]; simp; omega
        rw [this]; rfl
      · have e : (lf (ob (E54 (i54 w lo wi f d ws N)))).ok = True := by kernel_rfl
        rw [e]; trivial
      · have e : (lf (ob (E54 (i54 w lo wi f d ws N)))).get.2.heap = [.cells 212 (bl 64 f), .cells 212 (bl 64 (fill54 f lo N))] := by kernel_rfl
        exact (congrArg (fun x => [HO.cells 212 (bl 64 f), HO.cells 212 x]) hf.symm).trans e.symm
  · cases h
def getI (w lo wi : Int) : Int := wordI (get54 (bitI w) lo wi)
def f106 : List SV → Option (Tr SV)
  | [.int .u64 w, .int .i64 lo, .int .i64 wi] => some (.need (0 ≤ lo ∧ 0 ≤ wi ∧ lo + wi ≤ 64) (.leaf (.int .u64 (getI w lo wi))))
  | _ => none
theorem s106 : Sound Try.prog th 106 (pureC f106) := pure_fn (tbl := auto th Try.prog nice97 us106 20) (H := oneLoop 4 L54) (auto_sound nok97 20)
  (oneLoop_ok (by kernel_rfl) (by kernel_rfl) L54_sound) fun args t h hok => by
  unfold f106 at h
  split at h
  · rename_i w lo wi
    cases h
    obtain ⟨⟨h1, h2, h3⟩, _⟩ := hok
    refine ⟨.need (((0 : Int) = 0 ∧ (0 : Int) = 0 ∧ bl 64 (bitI w) = bl 64 (fOf72 (bl 64 (bitI w))) ∧ bl 64 (fun _ => false) = bl 64 (fun _ => false)) ∧ 0 ≤ lo ∧ 0 ≤ wi ∧ lo + wi ≤ 64) (.leaf (.int .u64 (wordI (fun j => ((List.range 64).map (get54 (fOf72 (bl 64 (bitI w))) lo wi)).getD j false)), [], [])), by kernel_rfl, ⟨⟨⟨rfl, rfl, ?_, rfl⟩, h1, h2, h3⟩, trivial⟩, ?_⟩
    · exact bl_congr fun j hj => (fOf72_bl hj).symm
    · have : wordI (fun j => ((List.range 64).map (get54 (fOf72 (bl 64 (bitI w))) lo wi)).getD j false) = getI w lo wi := by
        unfold getI
        refine wordI_congr fun j hj => ?_
        simp only [List.getD_eq_getElem?_getD, List.getElem?_map, List.getElem?_range hj, Option.map_some, Option.getD_some]
        unfold get54
        split
        · rw [fOf72_bl (by omega)]
        · rfl
      exact congrArg (fun x => (SV.int .u64 x, ([] : List (HO th.R)), ([] : List Nat))) this
  · cases h
noncomputable def nice106 : List (Nat × CF th.R) := (106, pureC f106) :: nice97
theorem nok106 : NiceOk Try.prog th nice106 := ⟨s106, nok97⟩
end Go.Sx.M

namespace Go.Sx.M
open Go Go.Sx Go.Proofs Go.RowKit
def us165 : List Un := [⟨173, [(2, 6)], [6]⟩]
def f165_0 (l : Int) (d : Int) : Bool := cnd (cnd (cnd (decide (l ≥ (0 : Int))) (decide (l < (64 : Int))) false) (decide (d ≥ (1 : Int))) false) (decide (d ≤ IntKind.i64.wrap ((64 : Int) - l))) false
def f165 : List SV → Option (Tr SV)
  | [.agg [.int .i64 l, .int .i64 d]] => some (Tr.leaf (SV.bool (f165_0 l d)))
  | _ => none
theorem s165 : Sound Try.prog th 165 (pureC f165) := pure_auto (us := us165) (nice := nice106) nok106 20 fun args t h => by
  unfold f165 at h
  split at h
  · cases h; kernel_rfl
  · cases h
noncomputable def nice165 : List (Nat × CF th.R) := (165, pureC f165) :: nice106
theorem nok165 : NiceOk Try.prog th nice165 := ⟨s165, nok106⟩
end Go.Sx.M

namespace Go.Sx.M
open Go Go.Sx Go.Proofs Go.RowKit
def us209 : List Un := [⟨173, [(2, 6)], [6]⟩]
def f209_0 (l : Int) (d : Int) : Prop := (!f165_0 l d) = false → true = true → (0 : Int) ≤ l
def f209_1 (l : Int) (d : Int) : Int := cnd (!f165_0 l d) (0 : Int) (IntKind.u64.wrap (f123_1 d * (2 : Int) ^ Min.min l.toNat IntKind.u64.bits))
theorem n209_0 (l : Int) (d : Int) : f209_0 l d := by
  simp only [f209_0, f165_0, cnd_eq]
  grind (splits := 40)
def f209 : List SV → Option (Tr SV)
  | [.agg [.int .i64 l, .int .i64 d]] => some (Tr.leaf (SV.int .u64 (f209_1 l d)))
  | _ => none
theorem s209 : Sound Try.prog th 209 (pureC f209) := pure_auto2 (us := us209) (nice := nice165) nok165 20 fun args t h => by
  unfold f209 at h
  split at h
  · rename_i l d
    cases h
    refine ⟨(Tr.need (f209_0 l d) (Tr.leaf (SV.int .u64 (f209_1 l d)))), by kernel_rfl, fun ok => ?_, rfl⟩
    first
    | (simp only [Tr.ok, n209_0, true_and, and_true, forall_const, implies_true]; done)
    | (simp only [Tr.ok, n209_0, true_and, and_true, forall_const, implies_true]; done)
    | (simpa only [Tr.ok, n209_0, true_and, and_true, forall_const, implies_true] using ok; done)
    | (simp only [Tr.ok, n209_0, true_and, and_true, forall_const, implies_true] at ok ⊢; grind)
  · cases h
noncomputable def nice209 : List (Nat × CF th.R) := (209, pureC f209) :: nice165
theorem nok209 : NiceOk Try.prog th nice209 := ⟨s209, nok165⟩
end Go.Sx.M

namespace Go.Sx.M
open Go Go.Sx Go.Proofs Go.RowKit
def us102 : List Un := [⟨173, [(2, 6)], [6]⟩]
def f102_0 (l : Int) (d : Int) (w : Int) : Prop := (!f165_0 l d) = false → true = true → (0 : Int) ≤ l
def f102_1 (l : Int) (d : Int) (w : Int) : Int := cnd (!f165_0 l d) (0 : Int) (Go.bits Go.BinOp.and IntKind.u64 (w.fdiv ((2 : Int) ^ Min.min l.toNat IntKind.u64.bits)) (f123_1 d))
theorem n102_0 (l : Int) (d : Int) (w : Int) : f102_0 l d w := by
  simp only [f102_0, f165_0, cnd_eq]
  grind (splits := 40)
def f102 : List SV → Option (Tr SV)
  | [.agg [.int .i64 l, .int .i64 d], .int .u64 w] => some (Tr.leaf (SV.int .u64 (f102_1 l d w)))
  | _ => none
theorem s102 : Sound Try.prog th 102 (pureC f102) := pure_auto2 (us := us102) (nice := nice209) nok209 20 fun args t h => by
  unfold f102 at h
  split at h
  · rename_i l d w
    cases h
    refine ⟨(Tr.need (f102_0 l d w) (Tr.leaf (SV.int .u64 (f102_1 l d w)))), by kernel_rfl, fun ok => ?_, rfl⟩
    first
    | (simp only [Tr.ok, n102_0, true_and, and_true, forall_const, implies_true]; done)
    | (simp only [Tr.ok, n102_0, true_and, and_true, forall_const, implies_true]; done)
    | (simpa only [Tr.ok, n102_0, true_and, and_true, forall_const, implies_true] using ok; done)
    | (simp only [Tr.ok, n102_0, true_and, and_true, forall_const, implies_true] at ok ⊢; grind)
  · cases h
noncomputable def nice102 : List (Nat × CF th.R) := (102, pureC f102) :: nice209
theorem nok102 : NiceOk Try.prog th nice102 := ⟨s102, nok209⟩
end Go.Sx.M

namespace Go.Sx.M
open Go Go.Sx Go.Proofs Go.RowKit
def us192 : List Un := [⟨173, [(2, 6)], [6]⟩]
def f192_0 (l : Int) (d : Int) (w : Int) (v : Int) : Prop := (!f165_0 l d) = false → (Go.bits Go.BinOp.andNot IntKind.u64 v (f123_1 d) != (0 : Int)) = false → true = true → (0 : Int) ≤ l
def f192_1 (l : Int) (d : Int) (w : Int) (v : Int) : Int := cnd (!f165_0 l d) (0 : Int) (cnd (Go.bits Go.BinOp.andNot IntKind.u64 v (f123_1 d) != (0 : Int)) (0 : Int) (Go.bits Go.BinOp.or IntKind.u64 (Go.bits Go.BinOp.andNot IntKind.u64 w (f209_1 l d)) (IntKind.u64.wrap (v * (2 : Int) ^ Min.min l.toNat IntKind.u64.bits))))
def f192_2 (l : Int) (d : Int) (w : Int) (v : Int) : Int := cnd (!f165_0 l d) (10 : Int) (cnd (Go.bits Go.BinOp.andNot IntKind.u64 v (f123_1 d) != (0 : Int)) (11 : Int) (0 : Int))
theorem n192_0 (l : Int) (d : Int) (w : Int) (v : Int) : f192_0 l d w v := by
  simp only [f192_0, f165_0, cnd_eq]
  grind (splits := 40)
def f192 : List SV → Option (Tr SV)
  | [.agg [.int .i64 l, .int .i64 d], .int .u64 w, .int .u64 v] => some (Tr.leaf (SV.tup [SV.int .u64 (f192_1 l d w v), SV.int .i64 (f192_2 l d w v)]))
  | _ => none
theorem s192 : Sound Try.prog th 192 (pureC f192) := pure_auto2 (us := us192) (nice := nice102) nok102 20 fun args t h => by
  unfold f192 at h
  split at h
  · rename_i l d w v
    cases h
    refine ⟨(Tr.need (f192_0 l d w v) (Tr.leaf (SV.tup [SV.int .u64 (f192_1 l d w v), SV.int .i64 (f192_2 l d w v)]))), by kernel_rfl, fun ok => ?_, rfl⟩
    first
    | (simp only [Tr.ok, n192_0, true_and, and_true, forall_const, implies_true]; done)
    | (simp only [Tr.ok, n192_0, true_and, and_true, forall_const, implies_true]; done)
    | (simpa only [Tr.ok, n192_0, true_and, and_true, forall_const, implies_true] using ok; done)
    | (simp only [Tr.ok, n192_0, true_and, and_true, forall_const, implies_true] at ok ⊢; grind)
  · cases h
noncomputable def nice192 : List (Nat × CF th.R) := (192, pureC f192) :: nice102
theorem nok192 : NiceOk Try.prog th nice192 := ⟨s192, nok102⟩
end Go.Sx.M

namespace Go.Sx.M
open Go Go.Sx Go.Proofs Go.RowKit
def us164 : List Un := [⟨173, [(2, 6)], [6]⟩, ⟨164, [(5, 7)], [15]⟩]
def f164_0 (k : Int) (a : Int) (b : Int) (r : Int) (g : Int) (s : Int) (m : Int) : Prop := (!f45_1 k a b r g s m) = false → (0 : Int) ≤ (5 : Int)
def f164_1 (k : Int) (a : Int) (b : Int) (r : Int) (g : Int) (s : Int) (m : Int) : Prop := (!f45_1 k a b r g s m) = false → ∀ (i : Nat), scpL (0:Nat) (rowEl (6 : Nat) (nat_lit 2 + (1 : Nat)) (setMany (setMany (setMany (setMany (setMany (setMany (List.map (fun i => [SV.int IntKind.i64 (0 : Int), SV.int IntKind.i64 (0 : Int), SV.int IntKind.u64 (0 : Int)].getD (i % (3 : Nat)) Inhabited.default) (List.range ((6 : Nat) * (nat_lit 2 + (1 : Nat))))) ((0:Nat) * (nat_lit 2 + (1 : Nat))) (SV.agg (setMany (setMany [SV.int IntKind.i64 (0 : Int), SV.int IntKind.i64 (0 : Int), SV.int IntKind.u64 (0 : Int)] (Go.Field.mk "Field" (147 : Nat) (0:Nat) true "" "" (0:Nat)).offset (SV.agg (setMany (setMany [SV.int IntKind.i64 (0 : Int), SV.int IntKind.i64 (0 : Int)] (Go.Field.mk "Low" (3 : Nat) (0:Nat) false "" "" (0:Nat)).offset (SV.int IntKind.i64 (0 : Int)).cells) (Go.Field.mk "Wide" (3 : Nat) (1 : Nat) false "" "" (8 : Nat)).offset (SV.int IntKind.i64 (4 : Int)).cells)).cells) (Go.Field.mk "v" (22 : Nat) (2 : Nat) false "" "portreeve/cap" (16 : Nat)).offset (SV.int IntKind.u64 (IntKind.u64.wrap k)).cells)).cells) ((1 : Nat) * (nat_lit 2 + (1 : Nat))) (SV.agg (setMany (setMany [SV.int IntKind.i64 (0 : Int), SV.int IntKind.i64 (0 : Int), SV.int IntKind.u64 (0 : Int)] (Go.Field.mk "Field" (147 : Nat) (0:Nat) true "" "" (0:Nat)).offset (SV.agg (setMany (setMany [SV.int IntKind.i64 (0 : Int), SV.int IntKind.i64 (0 : Int)] (Go.Field.mk "Low" (3 : Nat) (0:Nat) false "" "" (0:Nat)).offset (SV.int IntKind.i64 (4 : Int)).cells) (Go.Field.mk "Wide" (3 : Nat) (1 : Nat) false "" "" (8 : Nat)).offset (SV.int IntKind.i64 (6 : Int)).cells)).cells) (Go.Field.mk "v" (22 : Nat) (2 : Nat) false "" "portreeve/cap" (16 : Nat)).offset (SV.int IntKind.u64 (IntKind.u64.wrap b)).cells)).cells) ((2 : Nat) * (nat_lit 2 + (1 : Nat))) (SV.agg (setMany (setMany [SV.int IntKind.i64 (0 : Int), SV.int IntKind.i64 (0 : Int), SV.int IntKind.u64 (0 : Int)] (Go.Field.mk "Field" (147 : Nat) (0:Nat) true "" "" (0:Nat)).offset (SV.agg (setMany (setMany [SV.int IntKind.i64 (0 : Int), SV.int IntKind.i64 (0 : Int)] (Go.Field.mk "Low" (3 : Nat) (0:Nat) false "" "" (0:Nat)).offset (SV.int IntKind.i64 (10 : Int)).cells) (Go.Field.mk "Wide" (3 : Nat) (1 : Nat) false "" "" (8 : Nat)).offset (SV.int IntKind.i64 (3 : Int)).cells)).cells) (Go.Field.mk "v" (22 : Nat) (2 : Nat) false "" "portreeve/cap" (16 : Nat)).offset (SV.int IntKind.u64 (IntKind.u64.wrap r)).cells)).cells) ((3 : Nat) * (nat_lit 2 + (1 : Nat))) (SV.agg (setMany (setMany [SV.int IntKind.i64 (0 : Int), SV.int IntKind.i64 (0 : Int), SV.int IntKind.u64 (0 : Int)] (Go.Field.mk "Field" (147 : Nat) (0:Nat) true "" "" (0:Nat)).offset (SV.agg (setMany (setMany [SV.int IntKind.i64 (0 : Int), SV.int IntKind.i64 (0 : Int)] (Go.Field.mk "Low" (3 : Nat) (0:Nat) false "" "" (0:Nat)).offset (SV.int IntKind.i64 (13 : Int)).cells) (Go.Field.mk "Wide" (3 : Nat) (1 : Nat) false "" "" (8 : Nat)).offset (SV.int IntKind.i64 (6 : Int)).cells)).cells) (Go.Field.mk "v" (22 : Nat) (2 : Nat) false "" "portreeve/cap" (16 : Nat)).offset (SV.int IntKind.u64 (IntKind.u64.wrap g)).cells)).cells) ((4 : Nat) * (nat_lit 2 + (1 : Nat))) (SV.agg (setMany (setMany [SV.int IntKind.i64 (0 : Int), SV.int IntKind.i64 (0 : Int), SV.int IntKind.u64 (0 : Int)] (Go.Field.mk "Field" (147 : Nat) (0:Nat) true "" "" (0:Nat)).offset (SV.agg (setMany (setMany [SV.int IntKind.i64 (0 : Int), SV.int IntKind.i64 (0 : Int)] (Go.Field.mk "Low" (3 : Nat) (0:Nat) false "" "" (0:Nat)).offset (SV.int IntKind.i64 (19 : Int)).cells) (Go.Field.mk "Wide" (3 : Nat) (1 : Nat) false "" "" (8 : Nat)).offset (SV.int IntKind.i64 (16 : Int)).cells)).cells) (Go.Field.mk "v" (22 : Nat) (2 : Nat) false "" "portreeve/cap" (16 : Nat)).offset (SV.int IntKind.u64 (IntKind.u64.wrap s)).cells)).cells) ((5 : Nat) * (nat_lit 2 + (1 : Nat))) (SV.agg (setMany (setMany [SV.int IntKind.i64 (0 : Int), SV.int IntKind.i64 (0 : Int), SV.int IntKind.u64 (0 : Int)] (Go.Field.mk "Field" (147 : Nat) (0:Nat) true "" "" (0:Nat)).offset (SV.agg (setMany (setMany [SV.int IntKind.i64 (0 : Int), SV.int IntKind.i64 (0 : Int)] (Go.Field.mk "Low" (3 : Nat) (0:Nat) false "" "" (0:Nat)).offset (SV.int IntKind.i64 (35 : Int)).cells) (Go.Field.mk "Wide" (3 : Nat) (1 : Nat) false "" "" (8 : Nat)).offset (SV.int IntKind.i64 (27 : Int)).cells)).cells) (Go.Field.mk "v" (22 : Nat) (2 : Nat) false "" "portreeve/cap" (16 : Nat)).offset (SV.int IntKind.u64 (a.fdiv (32 : Int))).cells)).cells) i) = true
def f164_2 (k : Int) (a : Int) (b : Int) (r : Int) (g : Int) (s : Int) (m : Int) : Prop := (!f45_1 k a b r g s m) = false → (0 : Int) ≤ (0 : Int) ∧ (0 : Int) < (6 : Int)
def f164_3 (k : Int) (a : Int) (b : Int) (r : Int) (g : Int) (s : Int) (m : Int) : Prop := (!f45_1 k a b r g s m) = false → (0:Nat) + Int.toNat (0 : Int) < (6 : Nat)
def f164_4 (k : Int) (a : Int) (b : Int) (r : Int) (g : Int) (s : Int) (m : Int) : Prop := (!f45_1 k a b r g s m) = false → (0 : Int) ≤ (1 : Int) ∧ (1 : Int) < (6 : Int)
def f164_5 (k : Int) (a : Int) (b : Int) (r : Int) (g : Int) (s : Int) (m : Int) : Prop := (!f45_1 k a b r g s m) = false → (0:Nat) + Int.toNat (1 : Int) < (6 : Nat)
def f164_6 (k : Int) (a : Int) (b : Int) (r : Int) (g : Int) (s : Int) (m : Int) : Prop := (!f45_1 k a b r g s m) = false → (0 : Int) ≤ (2 : Int) ∧ (2 : Int) < (6 : Int)
def f164_7 (k : Int) (a : Int) (b : Int) (r : Int) (g : Int) (s : Int) (m : Int) : Prop := (!f45_1 k a b r g s m) = false → (0:Nat) + Int.toNat (2 : Int) < (6 : Nat)
def f164_8 (k : Int) (a : Int) (b : Int) (r : Int) (g : Int) (s : Int) (m : Int) : Prop := (!f45_1 k a b r g s m) = false → (0 : Int) ≤ (3 : Int) ∧ (3 : Int) < (6 : Int)
def f164_9 (k : Int) (a : Int) (b : Int) (r : Int) (g : Int) (s : Int) (m : Int) : Prop := (!f45_1 k a b r g s m) = false → (0:Nat) + Int.toNat (3 : Int) < (6 : Nat)
def f164_10 (k : Int) (a : Int) (b : Int) (r : Int) (g : Int) (s : Int) (m : Int) : Prop := (!f45_1 k a b r g s m) = false → (0 : Int) ≤ (4 : Int) ∧ (4 : Int) < (6 : Int)
def f164_11 (k : Int) (a : Int) (b : Int) (r : Int) (g : Int) (s : Int) (m : Int) : Prop := (!f45_1 k a b r g s m) = false → (0:Nat) + Int.toNat (4 : Int) < (6 : Nat)
def f164_12 (k : Int) (a : Int) (b : Int) (r : Int) (g : Int) (s : Int) (m : Int) : Prop := (!f45_1 k a b r g s m) = false → (0 : Int) ≤ (5 : Int) ∧ (5 : Int) < (6 : Int)
def f164_13 (k : Int) (a : Int) (b : Int) (r : Int) (g : Int) (s : Int) (m : Int) : Prop := (!f45_1 k a b r g s m) = false → (0:Nat) + Int.toNat (5 : Int) < (6 : Nat)
def f164_14 (k : Int) (a : Int) (b : Int) (r : Int) (g : Int) (s : Int) (m : Int) : Int := cnd (!f45_1 k a b r g s m) (0 : Int) (f192_1 (35 : Int) (27 : Int) (f192_1 (19 : Int) (16 : Int) (f192_1 (13 : Int) (6 : Int) (f192_1 (10 : Int) (3 : Int) (f192_1 (4 : Int) (6 : Int) (f192_1 (0 : Int) (4 : Int) (0 : Int) (IntKind.u64.wrap k)) (IntKind.u64.wrap b)) (IntKind.u64.wrap r)) (IntKind.u64.wrap g)) (IntKind.u64.wrap s)) (a.fdiv (32 : Int)))
def f164_15 (k : Int) (a : Int) (b : Int) (r : Int) (g : Int) (s : Int) (m : Int) : Int := cnd (!f45_1 k a b r g s m) (0 : Int) m
def f164_16 (k : Int) (a : Int) (b : Int) (r : Int) (g : Int) (s : Int) (m : Int) : Int := cnd (!f45_1 k a b r g s m) (10 : Int) (0 : Int)
theorem n164_0 (k : Int) (a : Int) (b : Int) (r : Int) (g : Int) (s : Int) (m : Int) : f164_0 k a b r g s m := by
  simp only [f164_0, cnd_eq]
  grind (splits := 40)
theorem n164_1 (k : Int) (a : Int) (b : Int) (r : Int) (g : Int) (s : Int) (m : Int) : f164_1 k a b r g s m := by
  unfold f164_1
  (repeat' first
    | apply And.intro
    | intro _
    | apply scpL_rowSet)
  all_goals first
    | exact scpL_rowEl (by kernel_rfl) _
    | exact scpL_chunk (by kernel_rfl)
    | rfl
    | omega
    | decide
    | decide +kernel
theorem n164_2 (k : Int) (a : Int) (b : Int) (r : Int) (g : Int) (s : Int) (m : Int) : f164_2 k a b r g s m := by
  simp only [f164_2, cnd_eq]
  grind (splits := 40)
theorem n164_3 (k : Int) (a : Int) (b : Int) (r : Int) (g : Int) (s : Int) (m : Int) : f164_3 k a b r g s m := by
  simp only [f164_3, cnd_eq]
  grind (splits := 40)
theorem n164_4 (k : Int) (a : Int) (b : Int) (r : Int) (g : Int) (s : Int) (m : Int) : f164_4 k a b r g s m := by
  simp only [f164_4, cnd_eq]
  grind (splits := 40)
theorem n164_5 (k : Int) (a : Int) (b : Int) (r : Int) (g : Int) (s : Int) (m : Int) : f164_5 k a b r g s m := by
  simp only [f164_5, cnd_eq]
  grind (splits := 40)
theorem n164_6 (k : Int) (a : Int) (b : Int) (r : Int) (g : Int) (s : Int) (m : Int) : f164_6 k a b r g s m := by
  simp only [f164_6, cnd_eq]
  grind (splits := 40)
theorem n164_7 (k : Int) (a : Int) (b : Int) (r : Int) (g : Int) (s : Int) (m : Int) : f164_7 k a b r g s m := by
  simp only [f164_7, cnd_eq]
  grind (splits := 40)
theorem n164_8 (k : Int) (a : Int) (b : Int) (r : Int) (g : Int) (s : Int) (m : Int) : f164_8 k a b r g s m := by
  simp only [f164_8, cnd_eq]
  grind (splits := 40)
theorem n164_9 (k : Int) (a : Int) (b : Int) (r : Int) (g : Int) (s : Int) (m : Int) : f164_9 k a b r g s m := by
  simp only [f164_9, cnd_eq]
  grind (splits := 40)
theorem n164_10 (k : Int) (a : Int) (b : Int) (r : Int) (g : Int) (s : Int) (m : Int) : f164_10 k a b r g s m := by
  simp only [f164_10, cnd_eq]
  grind (splits := 40)
theorem n164_11 (k : Int) (a : Int) (b : Int) (r : Int) (g : Int) (s : Int) (m : Int) : f164_11 k a b r g s m := by
  simp only [f164_11, cnd_eq]
  grind (splits := 40)
theorem n164_12 (k : Int) (a : Int) (b : Int) (r : Int) (g : Int) (s : Int) (m : Int) : f164_12 k a b r g s m := by
  simp only [f164_12, cnd_eq]
  grind (splits := 40)
theorem n164_13 (k : Int) (a : Int) (b : Int) (r : Int) (g : Int) (s : Int) (m : Int) : f164_13 k a b r g s m := by
  simp only [f164_13, cnd_eq]
  grind (splits := 40)
def f164 : List SV → Option (Tr SV)
  | [.agg [.int .i64 k, .int .u64 a, .int .i64 b, .int .i64 r, .int .i64 g, .int .i64 s, .int .u64 m]] => some (Tr.leaf (SV.tup [SV.int .u64 (f164_14 k a b r g s m), SV.int .u64 (f164_15 k a b r g s m), SV.int .i64 (f164_16 k a b r g s m)]))
  | _ => none
theorem s164 : Sound Try.prog th 164 (pureC f164) := pure_auto2 (us := us164) (nice := nice192) nok192 20 fun args t h => by
  unfold f164 at h
  split at h
  · rename_i k a b r g s m
    cases h
    refine ⟨(Tr.need (f164_0 k a b r g s m) (Tr.need (f164_1 k a b r g s m) (Tr.need (f164_2 k a b r g s m) (Tr.need (f164_3 k a b r g s m) (Tr.need (f164_4 k a b r g s m) (Tr.need (f164_5 k a b r g s m) (Tr.need (f164_6 k a b r g s m) (Tr.need (f164_7 k a b r g s m) (Tr.need (f164_8 k a b r g s m) (Tr.need (f164_9 k a b r g s m) (Tr.need (f164_10 k a b r g s m) (Tr.need (f164_11 k a b r g s m) (Tr.need (f164_12 k a b r g s m) (Tr.need (f164_13 k a b r g s m) (Tr.leaf (SV.tup [SV.int .u64 (f164_14 k a b r g s m), SV.int .u64 (f164_15 k a b r g s m), SV.int .i64 (f164_16 k a b r g s m)])))))))))))))))), by kernel_rfl, fun ok => ?_, rfl⟩
    first
    | (simp only [Tr.ok, n164_0, n164_1, n164_2, n164_3, n164_4, n164_5, n164_6, n164_7, n164_8, n164_9, n164_10, n164_11, n164_12, n164_13, true_and, and_true, forall_const, implies_true]; done)
    | (simp only [Tr.ok, n164_0, n164_1, n164_2, n164_3, n164_4, n164_5, n164_6, n164_7, n164_8, n164_9, n164_10, n164_11, n164_12, n164_13, true_and, and_true, forall_const, implies_true]; done)
    | (simpa only [Tr.ok, n164_0, n164_1, n164_2, n164_3, n164_4, n164_5, n164_6, n164_7, n164_8, n164_9, n164_10, n164_11, n164_12, n164_13, true_and, and_true, forall_const, implies_true] using ok; done)
    | (simp only [Tr.ok, n164_0, n164_1, n164_2, n164_3, n164_4, n164_5, n164_6, n164_7, n164_8, n164_9, n164_10, n164_11, n164_12, n164_13, true_and, and_true, forall_const, implies_true] at ok ⊢; grind)
  · cases h
noncomputable def nice164 : List (Nat × CF th.R) := (164, pureC f164) :: nice192
theorem nok164 : NiceOk Try.prog th nice164 := ⟨s164, nok192⟩
end Go.Sx.M

namespace Go.Sx.M
open Go Go.Sx Go.Proofs Go.RowKit
def us100 : List Un := [⟨173, [(2, 6)], [6]⟩, ⟨164, [(5, 7)], [15]⟩]
def f100_0 (a : Int) (b : Int) : Prop := (0 : Int) ≤ (5 : Int)
def f100_1 (a : Int) (b : Int) : Prop := ∀ (i : Nat), scpL (0:Nat) (rowEl (6 : Nat) (nat_lit 2 + (1 : Nat)) (setMany (setMany (setMany (setMany (setMany (setMany (List.map (fun i => [SV.int IntKind.i64 (0 : Int), SV.int IntKind.i64 (0 : Int), SV.int IntKind.u64 (0 : Int)].getD (i % (3 : Nat)) Inhabited.default) (List.range ((6 : Nat) * (nat_lit 2 + (1 : Nat))))) ((0:Nat) * (nat_lit 2 + (1 : Nat))) (SV.agg (setMany (setMany [SV.int IntKind.i64 (0 : Int), SV.int IntKind.i64 (0 : Int), SV.int IntKind.u64 (0 : Int)] (Go.Field.mk "Field" (147 : Nat) (0:Nat) true "" "" (0:Nat)).offset (SV.agg (setMany (setMany [SV.int IntKind.i64 (0 : Int), SV.int IntKind.i64 (0 : Int)] (Go.Field.mk "Low" (3 : Nat) (0:Nat) false "" "" (0:Nat)).offset (SV.int IntKind.i64 (0 : Int)).cells) (Go.Field.mk "Wide" (3 : Nat) (1 : Nat) false "" "" (8 : Nat)).offset (SV.int IntKind.i64 (4 : Int)).cells)).cells) (Go.Field.mk "v" (22 : Nat) (2 : Nat) false "" "portreeve/cap" (16 : Nat)).offset (SV.int IntKind.u64 (0 : Int)).cells)).cells) ((1 : Nat) * (nat_lit 2 + (1 : Nat))) (SV.agg (setMany (setMany [SV.int IntKind.i64 (0 : Int), SV.int IntKind.i64 (0 : Int), SV.int IntKind.u64 (0 : Int)] (Go.Field.mk "Field" (147 : Nat) (0:Nat) true "" "" (0:Nat)).offset (SV.agg (setMany (setMany [SV.int IntKind.i64 (0 : Int), SV.int IntKind.i64 (0 : Int)] (Go.Field.mk "Low" (3 : Nat) (0:Nat) false "" "" (0:Nat)).offset (SV.int IntKind.i64 (4 : Int)).cells) (Go.Field.mk "Wide" (3 : Nat) (1 : Nat) false "" "" (8 : Nat)).offset (SV.int IntKind.i64 (6 : Int)).cells)).cells) (Go.Field.mk "v" (22 : Nat) (2 : Nat) false "" "portreeve/cap" (16 : Nat)).offset (SV.int IntKind.u64 (0 : Int)).cells)).cells) ((2 : Nat) * (nat_lit 2 + (1 : Nat))) (SV.agg (setMany (setMany [SV.int IntKind.i64 (0 : Int), SV.int IntKind.i64 (0 : Int), SV.int IntKind.u64 (0 : Int)] (Go.Field.mk "Field" (147 : Nat) (0:Nat) true "" "" (0:Nat)).offset (SV.agg (setMany (setMany [SV.int IntKind.i64 (0 : Int), SV.int IntKind.i64 (0 : Int)] (Go.Field.mk "Low" (3 : Nat) (0:Nat) false "" "" (0:Nat)).offset (SV.int IntKind.i64 (10 : Int)).cells) (Go.Field.mk "Wide" (3 : Nat) (1 : Nat) false "" "" (8 : Nat)).offset (SV.int IntKind.i64 (3 : Int)).cells)).cells) (Go.Field.mk "v" (22 : Nat) (2 : Nat) false "" "portreeve/cap" (16 : Nat)).offset (SV.int IntKind.u64 (0 : Int)).cells)).cells) ((3 : Nat) * (nat_lit 2 + (1 : Nat))) (SV.agg (setMany (setMany [SV.int IntKind.i64 (0 : Int), SV.int IntKind.i64 (0 : Int), SV.int IntKind.u64 (0 : Int)] (Go.Field.mk "Field" (147 : Nat) (0:Nat) true "" "" (0:Nat)).offset (SV.agg (setMany (setMany [SV.int IntKind.i64 (0 : Int), SV.int IntKind.i64 (0 : Int)] (Go.Field.mk "Low" (3 : Nat) (0:Nat) false "" "" (0:Nat)).offset (SV.int IntKind.i64 (13 : Int)).cells) (Go.Field.mk "Wide" (3 : Nat) (1 : Nat) false "" "" (8 : Nat)).offset (SV.int IntKind.i64 (6 : Int)).cells)).cells) (Go.Field.mk "v" (22 : Nat) (2 : Nat) false "" "portreeve/cap" (16 : Nat)).offset (SV.int IntKind.u64 (0 : Int)).cells)).cells) ((4 : Nat) * (nat_lit 2 + (1 : Nat))) (SV.agg (setMany (setMany [SV.int IntKind.i64 (0 : Int), SV.int IntKind.i64 (0 : Int), SV.int IntKind.u64 (0 : Int)] (Go.Field.mk "Field" (147 : Nat) (0:Nat) true "" "" (0:Nat)).offset (SV.agg (setMany (setMany [SV.int IntKind.i64 (0 : Int), SV.int IntKind.i64 (0 : Int)] (Go.Field.mk "Low" (3 : Nat) (0:Nat) false "" "" (0:Nat)).offset (SV.int IntKind.i64 (19 : Int)).cells) (Go.Field.mk "Wide" (3 : Nat) (1 : Nat) false "" "" (8 : Nat)).offset (SV.int IntKind.i64 (16 : Int)).cells)).cells) (Go.Field.mk "v" (22 : Nat) (2 : Nat) false "" "portreeve/cap" (16 : Nat)).offset (SV.int IntKind.u64 (0 : Int)).cells)).cells) ((5 : Nat) * (nat_lit 2 + (1 : Nat))) (SV.agg (setMany (setMany [SV.int IntKind.i64 (0 : Int), SV.int IntKind.i64 (0 : Int), SV.int IntKind.u64 (0 : Int)] (Go.Field.mk "Field" (147 : Nat) (0:Nat) true "" "" (0:Nat)).offset (SV.agg (setMany (setMany [SV.int IntKind.i64 (0 : Int), SV.int IntKind.i64 (0 : Int)] (Go.Field.mk "Low" (3 : Nat) (0:Nat) false "" "" (0:Nat)).offset (SV.int IntKind.i64 (35 : Int)).cells) (Go.Field.mk "Wide" (3 : Nat) (1 : Nat) false "" "" (8 : Nat)).offset (SV.int IntKind.i64 (27 : Int)).cells)).cells) (Go.Field.mk "v" (22 : Nat) (2 : Nat) false "" "portreeve/cap" (16 : Nat)).offset (SV.int IntKind.u64 (0 : Int)).cells)).cells) i) = true
def f100_2 (a : Int) (b : Int) : Prop := (true = true → (0 : Int) ≤ (0 : Int) ∧ (0 : Int) < (6 : Int)) ∧ (true = true → (0:Nat) + Int.toNat (0 : Int) < (6 : Nat)) ∧ (true = true → (0 : Int) ≤ (5 : Int) ∧ (5 : Int) < (6 : Int)) ∧ (true = true → (0:Nat) + Int.toNat (5 : Int) < (6 : Nat)) ∧ (true = true → (0 : Int) ≤ (5 : Int)) ∧ (true = true → (0 : Int) ≤ (1 : Int) ∧ (1 : Int) < (6 : Int)) ∧ (true = true → (0:Nat) + Int.toNat (1 : Int) < (6 : Nat)) ∧ (true = true → (0 : Int) ≤ (2 : Int) ∧ (2 : Int) < (6 : Int)) ∧ (true = true → (0:Nat) + Int.toNat (2 : Int) < (6 : Nat)) ∧ (true = true → (0 : Int) ≤ (3 : Int) ∧ (3 : Int) < (6 : Int)) ∧ (true = true → (0:Nat) + Int.toNat (3 : Int) < (6 : Nat)) ∧ (true = true → (0 : Int) ≤ (4 : Int) ∧ (4 : Int) < (6 : Int)) ∧ (true = true → (0:Nat) + Int.toNat (4 : Int) < (6 : Nat))
def f100_3 (a : Int) (b : Int) : Int := cnd (cnd (f164_16 (IntKind.i64.wrap (f102_1 (0 : Int) (4 : Int) a)) (IntKind.u64.wrap (f102_1 (35 : Int) (27 : Int) a * (32 : Int))) (IntKind.i64.wrap (f102_1 (4 : Int) (6 : Int) a)) (IntKind.i64.wrap (f102_1 (10 : Int) (3 : Int) a)) (IntKind.i64.wrap (f102_1 (13 : Int) (6 : Int) a)) (IntKind.i64.wrap (f102_1 (19 : Int) (16 : Int) a)) b != (0 : Int)) true (f164_14 (IntKind.i64.wrap (f102_1 (0 : Int) (4 : Int) a)) (IntKind.u64.wrap (f102_1 (35 : Int) (27 : Int) a * (32 : Int))) (IntKind.i64.wrap (f102_1 (4 : Int) (6 : Int) a)) (IntKind.i64.wrap (f102_1 (10 : Int) (3 : Int) a)) (IntKind.i64.wrap (f102_1 (13 : Int) (6 : Int) a)) (IntKind.i64.wrap (f102_1 (19 : Int) (16 : Int) a)) b != a)) (0 : Int) (IntKind.i64.wrap (f102_1 (0 : Int) (4 : Int) a))
def f100_4 (a : Int) (b : Int) : Int := cnd (cnd (f164_16 (IntKind.i64.wrap (f102_1 (0 : Int) (4 : Int) a)) (IntKind.u64.wrap (f102_1 (35 : Int) (27 : Int) a * (32 : Int))) (IntKind.i64.wrap (f102_1 (4 : Int) (6 : Int) a)) (IntKind.i64.wrap (f102_1 (10 : Int) (3 : Int) a)) (IntKind.i64.wrap (f102_1 (13 : Int) (6 : Int) a)) (IntKind.i64.wrap (f102_1 (19 : Int) (16 : Int) a)) b != (0 : Int)) true (f164_14 (IntKind.i64.wrap (f102_1 (0 : Int) (4 : Int) a)) (IntKind.u64.wrap (f102_1 (35 : Int) (27 : Int) a * (32 : Int))) (IntKind.i64.wrap (f102_1 (4 : Int) (6 : Int) a)) (IntKind.i64.wrap (f102_1 (10 : Int) (3 : Int) a)) (IntKind.i64.wrap (f102_1 (13 : Int) (6 : Int) a)) (IntKind.i64.wrap (f102_1 (19 : Int) (16 : Int) a)) b != a)) (0 : Int) (IntKind.u64.wrap (f102_1 (35 : Int) (27 : Int) a * (32 : Int)))
def f100_5 (a : Int) (b : Int) : Int := cnd (cnd (f164_16 (IntKind.i64.wrap (f102_1 (0 : Int) (4 : Int) a)) (IntKind.u64.wrap (f102_1 (35 : Int) (27 : Int) a * (32 : Int))) (IntKind.i64.wrap (f102_1 (4 : Int) (6 : Int) a)) (IntKind.i64.wrap (f102_1 (10 : Int) (3 : Int) a)) (IntKind.i64.wrap (f102_1 (13 : Int) (6 : Int) a)) (IntKind.i64.wrap (f102_1 (19 : Int) (16 : Int) a)) b != (0 : Int)) true (f164_14 (IntKind.i64.wrap (f102_1 (0 : Int) (4 : Int) a)) (IntKind.u64.wrap (f102_1 (35 : Int) (27 : Int) a * (32 : Int))) (IntKind.i64.wrap (f102_1 (4 : Int) (6 : Int) a)) (IntKind.i64.wrap (f102_1 (10 : Int) (3 : Int) a)) (IntKind.i64.wrap (f102_1 (13 : Int) (6 : Int) a)) (IntKind.i64.wrap (f102_1 (19 : Int) (16 : Int) a)) b != a)) (0 : Int) (IntKind.i64.wrap (f102_1 (4 : Int) (6 : Int) a))
def f100_6 (a : Int) (b : Int) : Int := cnd (cnd (f164_16 (IntKind.i64.wrap (f102_1 (0 : Int) (4 : Int) a)) (IntKind.u64.wrap (f102_1 (35 : Int) (27 : Int) a * (32 : Int))) (IntKind.i64.wrap (f102_1 (4 : Int) (6 : Int) a)) (IntKind.i64.wrap (f102_1 (10 : Int) (3 : Int) a)) (IntKind.i64.wrap (f102_1 (13 : Int) (6 : Int) a)) (IntKind.i64.wrap (f102_1 (19 : Int) (16 : Int) a)) b != (0 : Int)) true (f164_14 (IntKind.i64.wrap (f102_1 (0 : Int) (4 : Int) a)) (IntKind.u64.wrap (f102_1 (35 : Int) (27 : Int) a * (32 : Int))) (IntKind.i64.wrap (f102_1 (4 : Int) (6 : Int) a)) (IntKind.i64.wrap (f102_1 (10 : Int) (3 : Int) a)) (IntKind.i64.wrap (f102_1 (13 : Int) (6 : Int) a)) (IntKind.i64.wrap (f102_1 (19 : Int) (16 : Int) a)) b != a)) (0 : Int) (IntKind.i64.wrap (f102_1 (10 : Int) (3 : Int) a))
def f100_7 (a : Int) (b : Int) : Int := cnd (cnd (f164_16 (IntKind.i64.wrap (f102_1 (0 : Int) (4 : Int) a)) (IntKind.u64.wrap (f102_1 (35 : Int) (27 : Int) a * (32 : Int))) (IntKind.i64.wrap (f102_1 (4 : Int) (6 : Int) a)) (IntKind.i64.wrap (f102_1 (10 : Int) (3 : Int) a)) (IntKind.i64.wrap (f102_1 (13 : Int) (6 : Int) a)) (IntKind.i64.wrap (f102_1 (19 : Int) (16 : Int) a)) b != (0 : Int)) true (f164_14 (IntKind.i64.wrap (f102_1 (0 : Int) (4 : Int) a)) (IntKind.u64.wrap (f102_1 (35 : Int) (27 : Int) a * (32 : Int))) (IntKind.i64.wrap (f102_1 (4 : Int) (6 : Int) a)) (IntKind.i64.wrap (f102_1 (10 : Int) (3 : Int) a)) (IntKind.i64.wrap (f102_1 (13 : Int) (6 : Int) a)) (IntKind.i64.wrap (f102_1 (19 : Int) (16 : Int) a)) b != a)) (0 : Int) (IntKind.i64.wrap (f102_1 (13 : Int) (6 : Int) a))
def f100_8 (a : Int) (b : Int) : Int := cnd (cnd (f164_16 (IntKind.i64.wrap (f102_1 (0 : Int) (4 : Int) a)) (IntKind.u64.wrap (f102_1 (35 : Int) (27 : Int) a * (32 : Int))) (IntKind.i64.wrap (f102_1 (4 : Int) (6 : Int) a)) (IntKind.i64.wrap (f102_1 (10 : Int) (3 : Int) a)) (IntKind.i64.wrap (f102_1 (13 : Int) (6 : Int) a)) (IntKind.i64.wrap (f102_1 (19 : Int) (16 : Int) a)) b != (0 : Int)) true (f164_14 (IntKind.i64.wrap (f102_1 (0 : Int) (4 : Int) a)) (IntKind.u64.wrap (f102_1 (35 : Int) (27 : Int) a * (32 : Int))) (IntKind.i64.wrap (f102_1 (4 : Int) (6 : Int) a)) (IntKind.i64.wrap (f102_1 (10 : Int) (3 : Int) a)) (IntKind.i64.wrap (f102_1 (13 : Int) (6 : Int) a)) (IntKind.i64.wrap (f102_1 (19 : Int) (16 : Int) a)) b != a)) (0 : Int) (IntKind.i64.wrap (f102_1 (19 : Int) (16 : Int) a))
def f100_9 (a : Int) (b : Int) : Int := cnd (cnd (f164_16 (IntKind.i64.wrap (f102_1 (0 : Int) (4 : Int) a)) (IntKind.u64.wrap (f102_1 (35 : Int) (27 : Int) a * (32 : Int))) (IntKind.i64.wrap (f102_1 (4 : Int) (6 : Int) a)) (IntKind.i64.wrap (f102_1 (10 : Int) (3 : Int) a)) (IntKind.i64.wrap (f102_1 (13 : Int) (6 : Int) a)) (IntKind.i64.wrap (f102_1 (19 : Int) (16 : Int) a)) b != (0 : Int)) true (f164_14 (IntKind.i64.wrap (f102_1 (0 : Int) (4 : Int) a)) (IntKind.u64.wrap (f102_1 (35 : Int) (27 : Int) a * (32 : Int))) (IntKind.i64.wrap (f102_1 (4 : Int) (6 : Int) a)) (IntKind.i64.wrap (f102_1 (10 : Int) (3 : Int) a)) (IntKind.i64.wrap (f102_1 (13 : Int) (6 : Int) a)) (IntKind.i64.wrap (f102_1 (19 : Int) (16 : Int) a)) b != a)) (0 : Int) b
def f100_10 (a : Int) (b : Int) : Int := cnd (cnd (f164_16 (IntKind.i64.wrap (f102_1 (0 : Int) (4 : Int) a)) (IntKind.u64.wrap (f102_1 (35 : Int) (27 : Int) a * (32 : Int))) (IntKind.i64.wrap (f102_1 (4 : Int) (6 : Int) a)) (IntKind.i64.wrap (f102_1 (10 : Int) (3 : Int) a)) (IntKind.i64.wrap (f102_1 (13 : Int) (6 : Int) a)) (IntKind.i64.wrap (f102_1 (19 : Int) (16 : Int) a)) b != (0 : Int)) true (f164_14 (IntKind.i64.wrap (f102_1 (0 : Int) (4 : Int) a)) (IntKind.u64.wrap (f102_1 (35 : Int) (27 : Int) a * (32 : Int))) (IntKind.i64.wrap (f102_1 (4 : Int) (6 : Int) a)) (IntKind.i64.wrap (f102_1 (10 : Int) (3 : Int) a)) (IntKind.i64.wrap (f102_1 (13 : Int) (6 : Int) a)) (IntKind.i64.wrap (f102_1 (19 : Int) (16 : Int) a)) b != a)) (10 : Int) (0 : Int)
theorem n100_0 (a : Int) (b : Int) : f100_0 a b := by
  simp only [f100_0, cnd_eq]
  grind (splits := 40)
theorem n100_1 (a : Int) (b : Int) : f100_1 a b := by
  unfold f100_1
  (repeat' first
    | apply And.intro
    | intro _
    | apply scpL_rowSet)
  all_goals first
    | exact scpL_rowEl (by kernel_rfl) _
    | exact scpL_chunk (by kernel_rfl)
    | rfl
    | omega
    | decide
    | decide +kernel
theorem n100_2 (a : Int) (b : Int) : f100_2 a b := by
  simp only [f100_2, cnd_eq]
  grind (splits := 40)
def f100 : List SV → Option (Tr SV)
  | [.int .u64 a, .int .u64 b] => some (Tr.leaf (SV.tup [SV.agg [SV.int .i64 (f100_3 a b), SV.int .u64 (f100_4 a b), SV.int .i64 (f100_5 a b), SV.int .i64 (f100_6 a b), SV.int .i64 (f100_7 a b), SV.int .i64 (f100_8 a b), SV.int .u64 (f100_9 a b)], SV.int .i64 (f100_10 a b)]))
  | _ => none
theorem s100 : Sound Try.prog th 100 (pureC f100) := pure_auto2 (us := us100) (nice := nice164) nok164 20 fun args t h => by
  unfold f100 at h
  split at h
  · rename_i a b
    cases h
    refine ⟨(Tr.need (f100_0 a b) (Tr.need (f100_1 a b) (Tr.need (f100_2 a b) (Tr.leaf (SV.tup [SV.agg [SV.int .i64 (f100_3 a b), SV.int .u64 (f100_4 a b), SV.int .i64 (f100_5 a b), SV.int .i64 (f100_6 a b), SV.int .i64 (f100_7 a b), SV.int .i64 (f100_8 a b), SV.int .u64 (f100_9 a b)], SV.int .i64 (f100_10 a b)]))))), by kernel_rfl, fun ok => ?_, rfl⟩
    first
    | (simp only [Tr.ok, n100_0, n100_1, n100_2, true_and, and_true, forall_const, implies_true]; done)
    | (simp only [Tr.ok, n100_0, n100_1, n100_2, true_and, and_true, forall_const, implies_true]; done)
    | (simpa only [Tr.ok, n100_0, n100_1, n100_2, true_and, and_true, forall_const, implies_true] using ok; done)
    | (simp only [Tr.ok, n100_0, n100_1, n100_2, true_and, and_true, forall_const, implies_true] at ok ⊢; grind)
  · cases h
noncomputable def nice100 : List (Nat × CF th.R) := (100, pureC f100) :: nice164
theorem nok100 : NiceOk Try.prog th nice100 := ⟨s100, nok164⟩
end Go.Sx.M

namespace Go.Sx.M
open Go Go.Sx Go.Proofs Go.RowKit
def us105 : List Un := [⟨173, [(2, 6)], [6]⟩, ⟨164, [(5, 7)], [15]⟩]
def f105_0 (a : Int) (b : Int) : Prop := (0 : Int) ≤ (0 : Int) ∧ (0 : Int) ≤ (4 : Int) ∧ (4 : Int) ≤ (64 : Int)
def f105_1 (a : Int) (b : Int) : Prop := (0 : Int) ≤ (4 : Int) ∧ (0 : Int) ≤ (6 : Int) ∧ (10 : Int) ≤ (64 : Int)
def f105_2 (a : Int) (b : Int) : Prop := (0 : Int) ≤ (10 : Int) ∧ (0 : Int) ≤ (3 : Int) ∧ (13 : Int) ≤ (64 : Int)
def f105_3 (a : Int) (b : Int) : Prop := (0 : Int) ≤ (13 : Int) ∧ (0 : Int) ≤ (6 : Int) ∧ (19 : Int) ≤ (64 : Int)
def f105_4 (a : Int) (b : Int) : Prop := (0 : Int) ≤ (19 : Int) ∧ (0 : Int) ≤ (16 : Int) ∧ (35 : Int) ≤ (64 : Int)
def f105_5 (a : Int) (b : Int) : Prop := (0 : Int) ≤ (35 : Int) ∧ (0 : Int) ≤ (27 : Int) ∧ (62 : Int) ≤ (64 : Int)
def f105_6 (a : Int) (b : Int) : Int := IntKind.i64.wrap (getI a (0 : Int) (4 : Int))
def f105_7 (a : Int) (b : Int) : Int := IntKind.u64.wrap (getI a (35 : Int) (27 : Int) * (32 : Int))
def f105_8 (a : Int) (b : Int) : Int := IntKind.i64.wrap (getI a (4 : Int) (6 : Int))
def f105_9 (a : Int) (b : Int) : Int := IntKind.i64.wrap (getI a (10 : Int) (3 : Int))
def f105_10 (a : Int) (b : Int) : Int := IntKind.i64.wrap (getI a (13 : Int) (6 : Int))
def f105_11 (a : Int) (b : Int) : Int := IntKind.i64.wrap (getI a (19 : Int) (16 : Int))
theorem n105_0 (a : Int) (b : Int) : f105_0 a b := by
  simp only [f105_0, cnd_eq]
  grind (splits := 40)
theorem n105_1 (a : Int) (b : Int) : f105_1 a b := by
  simp only [f105_1, cnd_eq]
  grind (splits := 40)
theorem n105_2 (a : Int) (b : Int) : f105_2 a b := by
  simp only [f105_2, cnd_eq]
  grind (splits := 40)
theorem n105_3 (a : Int) (b : Int) : f105_3 a b := by
  simp only [f105_3, cnd_eq]
  grind (splits := 40)
theorem n105_4 (a : Int) (b : Int) : f105_4 a b := by
  simp only [f105_4, cnd_eq]
  grind (splits := 40)
theorem n105_5 (a : Int) (b : Int) : f105_5 a b := by
  simp only [f105_5, cnd_eq]
  grind (splits := 40)
def f105 : List SV → Option (Tr SV)
  | [.int .u64 a, .int .u64 b] => some (Tr.leaf (SV.agg [SV.int .i64 (f105_6 a b), SV.int .u64 (f105_7 a b), SV.int .i64 (f105_8 a b), SV.int .i64 (f105_9 a b), SV.int .i64 (f105_10 a b), SV.int .i64 (f105_11 a b), SV.int .u64 (b)]))
  | _ => none
theorem s105 : Sound Try.prog th 105 (pureC f105) := pure_auto2 (us := us105) (nice := nice100) nok100 20 fun args t h => by
  unfold f105 at h
  split at h
  · rename_i a b
    cases h
    refine ⟨(Tr.need (f105_0 a b) (Tr.need (f105_1 a b) (Tr.need (f105_2 a b) (Tr.need (f105_3 a b) (Tr.need (f105_4 a b) (Tr.need (f105_5 a b) (Tr.leaf (SV.agg [SV.int .i64 (f105_6 a b), SV.int .u64 (f105_7 a b), SV.int .i64 (f105_8 a b), SV.int .i64 (f105_9 a b), SV.int .i64 (f105_10 a b), SV.int .i64 (f105_11 a b), SV.int .u64 (b)])))))))), by kernel_rfl, fun ok => ?_, rfl⟩
    first
    | (simp only [Tr.ok, n105_0, n105_1, n105_2, n105_3, n105_4, n105_5, true_and, and_true, forall_const, implies_true]; done)
    | (simp only [Tr.ok, n105_0, n105_1, n105_2, n105_3, n105_4, n105_5, true_and, and_true, forall_const, implies_true]; done)
    | (simpa only [Tr.ok, n105_0, n105_1, n105_2, n105_3, n105_4, n105_5, true_and, and_true, forall_const, implies_true] using ok; done)
    | (simp only [Tr.ok, n105_0, n105_1, n105_2, n105_3, n105_4, n105_5, true_and, and_true, forall_const, implies_true] at ok ⊢; grind)
  · cases h
noncomputable def nice105 : List (Nat × CF th.R) := (105, pureC f105) :: nice100
theorem nok105 : NiceOk Try.prog th nice105 := ⟨s105, nok100⟩
end Go.Sx.M

namespace Go.Sx.M
open Go Go.Sx Go.Proofs Go.RowKit
def us122 : List Un := [⟨173, [(2, 6)], [6]⟩, ⟨164, [(5, 7)], [15]⟩]
def f122_0 (a : Int) (b : Int) : Prop := (0 : Int) ≤ b ∧ b < (64 : Int)
def f122_1 (a : Int) (b : Int) : Prop := b.toNat < (64 : Nat)
def f122_2 (a : Int) (b : Int) : Bool := [bitI (IntKind.u64.wrap a) (nat_lit 0), bitI (IntKind.u64.wrap a) (nat_lit 1), bitI (IntKind.u64.wrap a) (nat_lit 2), bitI (IntKind.u64.wrap a) (nat_lit 3), bitI (IntKind.u64.wrap a) (nat_lit 4), bitI (IntKind.u64.wrap a) (nat_lit 5), bitI (IntKind.u64.wrap a) (nat_lit 6), bitI (IntKind.u64.wrap a) (nat_lit 7), bitI (IntKind.u64.wrap a) (nat_lit 8), bitI (IntKind.u64.wrap a) (nat_lit 9), bitI (IntKind.u64.wrap a) (nat_lit 10), bitI (IntKind.u64.wrap a) (nat_lit 11), bitI (IntKind.u64.wrap a) (nat_lit 12), bitI (IntKind.u64.wrap a) (nat_lit 13), bitI (IntKind.u64.wrap a) (nat_lit 14), bitI (IntKind.u64.wrap a) (nat_lit 15), bitI (IntKind.u64.wrap a) (nat_lit 16), bitI (IntKind.u64.wrap a) (nat_lit 17), bitI (IntKind.u64.wrap a) (nat_lit 18), bitI (IntKind.u64.wrap a) (nat_lit 19), bitI (IntKind.u64.wrap a) (nat_lit 20), bitI (IntKind.u64.wrap a) (nat_lit 21), bitI (IntKind.u64.wrap a) (nat_lit 22), bitI (IntKind.u64.wrap a) (nat_lit 23), bitI (IntKind.u64.wrap a) (nat_lit 24), bitI (IntKind.u64.wrap a) (nat_lit 25), bitI (IntKind.u64.wrap a) (nat_lit 26), bitI (IntKind.u64.wrap a) (nat_lit 27), bitI (IntKind.u64.wrap a) (nat_lit 28), bitI (IntKind.u64.wrap a) (nat_lit 29), bitI (IntKind.u64.wrap a) (nat_lit 30), bitI (IntKind.u64.wrap a) (nat_lit 31), bitI (IntKind.u64.wrap a) (nat_lit 32), bitI (IntKind.u64.wrap a) (nat_lit 33), bitI (IntKind.u64.wrap a) (nat_lit 34), bitI (IntKind.u64.wrap a) (nat_lit 35), bitI (IntKind.u64.wrap a) (nat_lit 36), bitI (IntKind.u64.wrap a) (nat_lit 37), bitI (IntKind.u64.wrap a) (nat_lit 38), bitI (IntKind.u64.wrap a) (nat_lit 39), bitI (IntKind.u64.wrap a) (nat_lit 40), bitI (IntKind.u64.wrap a) (nat_lit 41), bitI (IntKind.u64.wrap a) (nat_lit 42), bitI (IntKind.u64.wrap a) (nat_lit 43), bitI (IntKind.u64.wrap a) (nat_lit 44), bitI (IntKind.u64.wrap a) (nat_lit 45), bitI (IntKind.u64.wrap a) (nat_lit 46), bitI (IntKind.u64.wrap a) (nat_lit 47), bitI (IntKind.u64.wrap a) (nat_lit 48), bitI (IntKind.u64.wrap a) (nat_lit 49), bitI (IntKind.u64.wrap a) (nat_lit 50), bitI (IntKind.u64.wrap a) (nat_lit 51), bitI (IntKind.u64.wrap a) (nat_lit 52), bitI (IntKind.u64.wrap a) (nat_lit 53), bitI (IntKind.u64.wrap a) (nat_lit 54), bitI (IntKind.u64.wrap a) (nat_lit 55), bitI (IntKind.u64.wrap a) (nat_lit 56), bitI (IntKind.u64.wrap a) (nat_lit 57), bitI (IntKind.u64.wrap a) (nat_lit 58), bitI (IntKind.u64.wrap a) (nat_lit 59), bitI (IntKind.u64.wrap a) (nat_lit 60), bitI (IntKind.u64.wrap a) (nat_lit 61), bitI (IntKind.u64.wrap a) (nat_lit 62), bitI (IntKind.u64.wrap a) (nat_lit 63)].getD b.toNat false
def f122 : List SV → Option (Tr SV)
  | [.int .i64 a, .int .i64 b] => some (Tr.need (f122_0 a b) (Tr.need (f122_1 a b) (Tr.leaf (SV.bool (f122_2 a b)))))
  | _ => none
theorem s122 : Sound Try.prog th 122 (pureC f122) := pure_auto (us := us122) (nice := nice105) nok105 20 fun args t h => by
  unfold f122 at h
  split at h
  · cases h; kernel_rfl
  · cases h
noncomputable def nice122 : List (Nat × CF th.R) := (122, pureC f122) :: nice105
theorem nok122 : NiceOk Try.prog th nice122 := ⟨s122, nok105⟩
end Go.Sx.M

namespace Go.Sx.M
open Go Go.Sx Go.Proofs Go.RowKit
def us117 : List Un := [⟨173, [(2, 6)], [6]⟩, ⟨164, [(5, 7)], [15]⟩]
def f117_0 (a : Int) (b : Int) : Int := cnd (cnd (!f116_0 a) true !f116_0 b) (0 : Int) (Go.bits Go.BinOp.and IntKind.i64 a b)
def f117 : List SV → Option (Tr SV)
  | [.int .i64 a, .int .i64 b] => some (Tr.leaf (SV.int .i64 (f117_0 a b)))
  | _ => none
theorem s117 : Sound Try.prog th 117 (pureC f117) := pure_auto (us := us117) (nice := nice122) nok122 20 fun args t h => by
  unfold f117 at h
  split at h
  · cases h; kernel_rfl
  · cases h
noncomputable def nice117 : List (Nat × CF th.R) := (117, pureC f117) :: nice122
theorem nok117 : NiceOk Try.prog th nice117 := ⟨s117, nok122⟩
end Go.Sx.M

namespace Go.Sx.M
open Go Go.Sx Go.Proofs Go.RowKit
def us98 : List Un := [⟨173, [(2, 6)], [6]⟩, ⟨164, [(5, 7)], [15]⟩]
def f98_0 (w : Int) (n : Int) : Int := cnd (f125_0 w n) w (IntKind.u64.wrap (Go.bits Go.BinOp.or IntKind.u64 w (f123_1 n) + (1 : Int)))
def f98_1 (w : Int) (n : Int) : Bool := cnd (f125_0 w n) true (Go.bits Go.BinOp.or IntKind.u64 w (f123_1 n) != (18446744073709551615 : Int))
def f98 : List SV → Option (Tr SV)
  | [.int .u64 w, .int .i64 n] => some (Tr.leaf (SV.tup [SV.int .u64 (f98_0 w n), SV.bool (f98_1 w n)]))
  | _ => none
theorem s98 : Sound Try.prog th 98 (pureC f98) := pure_auto (us := us98) (nice := nice117) nok117 20 fun args t h => by
  unfold f98 at h
  split at h
  · cases h; kernel_rfl
  · cases h
noncomputable def nice98 : List (Nat × CF th.R) := (98, pureC f98) :: nice117
theorem nok98 : NiceOk Try.prog th nice98 := ⟨s98, nok117⟩
end Go.Sx.M

namespace Go.Sx.M
open Go Go.Sx Go.Proofs Go.RowKit
def us148 : List Un := [⟨173, [(2, 6)], [6]⟩, ⟨164, [(5, 7)], [15]⟩]
def f148_0 (w : Int) : Prop := (0 : Int) ≤ (12 : Int)
def f148_1 (w : Int) : Prop := (4096 : Int) ≠ (0 : Int)
def f148_2 (w : Int) : Prop := (8 : Int) ≠ (0 : Int)
def f148_3 (w : Int) : Int := w.fdiv (4096 : Int)
def f148_4 (w : Int) : Int := IntKind.u64.wrap ((w.tmod (4096 : Int)).tdiv (8 : Int))
theorem n148_0 (w : Int) : f148_0 w := by
  simp only [f148_0, cnd_eq]
  grind (splits := 40)
theorem n148_1 (w : Int) : f148_1 w := by
  simp only [f148_1, cnd_eq]
  grind (splits := 40)
theorem n148_2 (w : Int) : f148_2 w := by
  simp only [f148_2, cnd_eq]
  grind (splits := 40)
def f148 : List SV → Option (Tr SV)
  | [.int .u64 w] => some (Tr.leaf (SV.tup [SV.int .u64 (f148_3 w), SV.int .u64 (f148_4 w)]))
  | _ => none
theorem s148 : Sound Try.prog th 148 (pureC f148) := pure_auto2 (us := us148) (nice := nice98) nok98 20 fun args t h => by
  unfold f148 at h
  split at h
  · rename_i w
    cases h
    refine ⟨(Tr.need (f148_0 w) (Tr.need (f148_1 w) (Tr.need (f148_2 w) (Tr.leaf (SV.tup [SV.int .u64 (f148_3 w), SV.int .u64 (f148_4 w)]))))), by kernel_rfl, fun ok => ?_, rfl⟩
    first
    | (simp only [Tr.ok, n148_0, n148_1, n148_2, true_and, and_true, forall_const, implies_true]; done)
    | (simp only [Tr.ok, n148_0, n148_1, n148_2, true_and, and_true, forall_const, implies_true]; done)
    | (simpa only [Tr.ok, n148_0, n148_1, n148_2, true_and, and_true, forall_const, implies_true] using ok; done)
    | (simp only [Tr.ok, n148_0, n148_1, n148_2, true_and, and_true, forall_const, implies_true] at ok ⊢; grind)
  · cases h
noncomputable def nice148 : List (Nat × CF th.R) := (148, pureC f148) :: nice98
theorem nok148 : NiceOk Try.prog th nice148 := ⟨s148, nok98⟩
end Go.Sx.M

namespace Go.Sx.M
open Go Go.Sx Go.Proofs Go.RowKit
def us30 : List Un := [⟨173, [(2, 6)], [6]⟩, ⟨164, [(5, 7)], [15]⟩]
def f30_0 (w : Int) : Prop := (32 : Int) ≠ (0 : Int)
def f30_1 (w : Int) : Int := cnd (w.tmod (32 : Int) != (0 : Int)) (13 : Int) (cnd (decide (w ≥ (65536 : Int))) (12 : Int) (0 : Int))
theorem n30_0 (w : Int) : f30_0 w := by
  simp only [f30_0, cnd_eq]
  grind (splits := 40)
def f30 : List SV → Option (Tr SV)
  | [.int .u64 w] => some (Tr.leaf (SV.int .i64 (f30_1 w)))
  | _ => none
theorem s30 : Sound Try.prog th 30 (pureC f30) := pure_auto2 (us := us30) (nice := nice148) nok148 20 fun args t h => by
  unfold f30 at h
  split at h
  · rename_i w
    cases h
    refine ⟨(Tr.need (f30_0 w) (Tr.leaf (SV.int .i64 (f30_1 w)))), by kernel_rfl, fun ok => ?_, rfl⟩
    first
    | (simp only [Tr.ok, n30_0, true_and, and_true, forall_const, implies_true]; done)
    | (simp only [Tr.ok, n30_0, true_and, and_true, forall_const, implies_true]; done)
    | (simpa only [Tr.ok, n30_0, true_and, and_true, forall_const, implies_true] using ok; done)
    | (simp only [Tr.ok, n30_0, true_and, and_true, forall_const, implies_true] at ok ⊢; grind)
  · cases h
noncomputable def nice30 : List (Nat × CF th.R) := (30, pureC f30) :: nice148
theorem nok30 : NiceOk Try.prog th nice30 := ⟨s30, nok148⟩
end Go.Sx.M

namespace Go.Sx.M
open Go Go.Sx Go.Proofs Go.RowKit
def us107 : List Un := [⟨173, [(2, 6)], [6]⟩, ⟨164, [(5, 7)], [15]⟩]
def f107_0 (w : Int) : Prop := (0 : Int) ≤ (32 : Int)
def f107_1 (w : Int) : Bool := cnd (w.fdiv (4294967296 : Int) == (0 : Int)) (f125_0 w (5 : Int)) false
theorem n107_0 (w : Int) : f107_0 w := by
  simp only [f107_0, cnd_eq]
  grind (splits := 40)
def f107 : List SV → Option (Tr SV)
  | [.int .u64 w] => some (Tr.leaf (SV.bool (f107_1 w)))
  | _ => none
theorem s107 : Sound Try.prog th 107 (pureC f107) := pure_auto2 (us := us107) (nice := nice30) nok30 20 fun args t h => by
  unfold f107 at h
  split at h
  · rename_i w
    cases h
    refine ⟨(Tr.need (f107_0 w) (Tr.leaf (SV.bool (f107_1 w)))), by kernel_rfl, fun ok => ?_, rfl⟩
    first
    | (simp only [Tr.ok, n107_0, true_and, and_true, forall_const, implies_true]; done)
    | (simp only [Tr.ok, n107_0, true_and, and_true, forall_const, implies_true]; done)
    | (simpa only [Tr.ok, n107_0, true_and, and_true, forall_const, implies_true] using ok; done)
    | (simp only [Tr.ok, n107_0, true_and, and_true, forall_const, implies_true] at ok ⊢; grind)
  · cases h
noncomputable def nice107 : List (Nat × CF th.R) := (107, pureC f107) :: nice30
theorem nok107 : NiceOk Try.prog th nice107 := ⟨s107, nok30⟩
end Go.Sx.M

namespace Go.Sx.M
open Go Go.Sx Go.Proofs Go.RowKit
def us180 : List Un := [⟨173, [(2, 6)], [6]⟩, ⟨164, [(5, 7)], [15]⟩]
def f180_0 (a : Int) (b : Int) (c : Int) : Int := cnd (a == b) c (cnd (a == c) b a)
def f180 : List SV → Option (Tr SV)
  | [.int .u64 a, .int .u64 b, .int .u64 c] => some (Tr.leaf (SV.int .u64 (f180_0 a b c)))
  | _ => none
theorem s180 : Sound Try.prog th 180 (pureC f180) := pure_auto (us := us180) (nice := nice107) nok107 20 fun args t h => by
  unfold f180 at h
  split at h
  · cases h; kernel_rfl
  · cases h
noncomputable def nice180 : List (Nat × CF th.R) := (180, pureC f180) :: nice107
theorem nok180 : NiceOk Try.prog th nice180 := ⟨s180, nok107⟩
end Go.Sx.M

namespace Go.Sx.M
open Go Go.Sx Go.Proofs Go.RowKit
def us178 : List Un := [⟨173, [(2, 6)], [6]⟩, ⟨164, [(5, 7)], [15]⟩]
def f178_0 (k : Int) (a : Int) (b : Int) (r : Int) (g : Int) (s : Int) (m : Int) : Int := cnd (cnd (!f45_1 k a b r g s m) true (k == (0 : Int))) (10 : Int) (0 : Int)
def f178 : List SV → Option (Tr SV)
  | [.agg [.int .i64 k, .int .u64 a, .int .i64 b, .int .i64 r, .int .i64 g, .int .i64 s, .int .u64 m]] => some (Tr.leaf (SV.int .i64 (f178_0 k a b r g s m)))
  | _ => none
theorem s178 : Sound Try.prog th 178 (pureC f178) := pure_auto (us := us178) (nice := nice180) nok180 20 fun args t h => by
  unfold f178 at h
  split at h
  · cases h; kernel_rfl
  · cases h
noncomputable def nice178 : List (Nat × CF th.R) := (178, pureC f178) :: nice180
theorem nok178 : NiceOk Try.prog th nice178 := ⟨s178, nok180⟩
end Go.Sx.M

namespace Go.Sx.M
open Go Go.Sx Go.Proofs Go.RowKit
def us46 : List Un := [⟨173, [(2, 6)], [6]⟩, ⟨164, [(5, 7)], [15]⟩, ⟨46, [(4, 4)], [9]⟩]
def f46_0 (a : Int) (b : Int) : Prop := f122_0 a (0 : Int)
def f46_1 (a : Int) (b : Int) : Prop := f122_1 a (0 : Int)
def f46_2 (a : Int) (b : Int) : Prop := cnd (f122_2 a (0 : Int)) true false = true → f122_0 b (0 : Int) ∧ f122_1 b (0 : Int)
def f46_3 (a : Int) (b : Int) : Prop := f122_0 a (1 : Int)
def f46_4 (a : Int) (b : Int) : Prop := f122_1 a (1 : Int)
def f46_5 (a : Int) (b : Int) : Prop := cnd (f122_2 a (1 : Int)) true false = true → f122_0 b (1 : Int) ∧ f122_1 b (1 : Int)
def f46_6 (a : Int) (b : Int) : Prop := f122_0 a (2 : Int)
def f46_7 (a : Int) (b : Int) : Prop := f122_1 a (2 : Int)
def f46_8 (a : Int) (b : Int) : Prop := cnd (f122_2 a (2 : Int)) true false = true → f122_0 b (2 : Int) ∧ f122_1 b (2 : Int)
def f46_9 (a : Int) (b : Int) : Int := cnd (cnd (f122_2 a (2 : Int)) (f122_2 b (2 : Int)) false) (IntKind.i64.wrap (cnd (cnd (f122_2 a (1 : Int)) (f122_2 b (1 : Int)) false) (IntKind.i64.wrap (cnd (cnd (f122_2 a (0 : Int)) (f122_2 b (0 : Int)) false) (1 : Int) (0 : Int) + (2 : Int))) (cnd (cnd (f122_2 a (0 : Int)) (f122_2 b (0 : Int)) false) (1 : Int) (0 : Int)) + (4 : Int))) (cnd (cnd (f122_2 a (1 : Int)) (f122_2 b (1 : Int)) false) (IntKind.i64.wrap (cnd (cnd (f122_2 a (0 : Int)) (f122_2 b (0 : Int)) false) (1 : Int) (0 : Int) + (2 : Int))) (cnd (cnd (f122_2 a (0 : Int)) (f122_2 b (0 : Int)) false) (1 : Int) (0 : Int)))
theorem n46_0 (a : Int) (b : Int) : f46_0 a b := by
  simp only [f46_0, f122_0, f122_1, cnd_eq]
  grind (splits := 40)
theorem n46_1 (a : Int) (b : Int) : f46_1 a b := by
  simp only [f46_1, f122_0, f122_1, cnd_eq]
  grind (splits := 40)
theorem n46_2 (a : Int) (b : Int) : f46_2 a b := by
  simp only [f46_2, f122_0, f122_1, cnd_eq]
  grind (splits := 40)
theorem n46_3 (a : Int) (b : Int) : f46_3 a b := by
  simp only [f46_3, f122_0, f122_1, cnd_eq]
  grind (splits := 40)
theorem n46_4 (a : Int) (b : Int) : f46_4 a b := by
  simp only [f46_4, f122_0, f122_1, cnd_eq]
  grind (splits := 40)
theorem n46_5 (a : Int) (b : Int) : f46_5 a b := by
  simp only [f46_5, f122_0, f122_1, cnd_eq]
  grind (splits := 40)
theorem n46_6 (a : Int) (b : Int) : f46_6 a b := by
  simp only [f46_6, f122_0, f122_1, cnd_eq]
  grind (splits := 40)
theorem n46_7 (a : Int) (b : Int) : f46_7 a b := by
  simp only [f46_7, f122_0, f122_1, cnd_eq]
  grind (splits := 40)
theorem n46_8 (a : Int) (b : Int) : f46_8 a b := by
  simp only [f46_8, f122_0, f122_1, cnd_eq]
  grind (splits := 40)
def f46 : List SV → Option (Tr SV)
  | [.int .i64 a, .int .i64 b] => some (Tr.leaf (SV.int .i64 (f46_9 a b)))
  | _ => none
theorem s46 : Sound Try.prog th 46 (pureC f46) := pure_auto2 (us := us46) (nice := nice178) nok178 20 fun args t h => by
  unfold f46 at h
  split at h
  · rename_i a b
    cases h
    refine ⟨(Tr.need (f46_0 a b) (Tr.need (f46_1 a b) (Tr.need (f46_2 a b) (Tr.need (f46_3 a b) (Tr.need (f46_4 a b) (Tr.need (f46_5 a b) (Tr.need (f46_6 a b) (Tr.need (f46_7 a b) (Tr.need (f46_8 a b) (Tr.leaf (SV.int .i64 (f46_9 a b)))))))))))), by kernel_rfl, fun ok => ?_, rfl⟩
    first
    | (simp only [Tr.ok, n46_0, n46_1, n46_2, n46_3, n46_4, n46_5, n46_6, n46_7, n46_8, true_and, and_true, forall_const, implies_true]; done)
    | (simp only [Tr.ok, n46_0, n46_1, n46_2, n46_3, n46_4, n46_5, n46_6, n46_7, n46_8, true_and, and_true, forall_const, implies_true]; done)
    | (simpa only [Tr.ok, n46_0, n46_1, n46_2, n46_3, n46_4, n46_5, n46_6, n46_7, n46_8, true_and, and_true, forall_const, implies_true] using ok; done)
    | (simp only [Tr.ok, n46_0, n46_1, n46_2, n46_3, n46_4, n46_5, n46_6, n46_7, n46_8, true_and, and_true, forall_const, implies_true] at ok ⊢; grind)
  · cases h
noncomputable def nice46 : List (Nat × CF th.R) := (46, pureC f46) :: nice178
theorem nok46 : NiceOk Try.prog th nice46 := ⟨s46, nok178⟩
end Go.Sx.M

namespace Go.Sx.M
open Go Go.Sx Go.Proofs Go.RowKit
def us34 : List Un := [⟨173, [(2, 6)], [6]⟩, ⟨164, [(5, 7)], [15]⟩, ⟨46, [(4, 4)], [9]⟩]
def f34_0 (k : Int) (a : Int) (b : Int) (r : Int) (g : Int) (s : Int) (m : Int) (x : Int) (p : Int) (d : Int) : Bool := cnd (cnd (cnd (cnd (f45_1 k a b r g s m) (f107_1 x) false) (f107_1 p) false) (decide (d ≥ (0 : Int))) false) (decide (d ≤ (4096 : Int))) false
def f34 : List SV → Option (Tr SV)
  | [.agg [.int .i64 k, .int .u64 a, .int .i64 b, .int .i64 r, .int .i64 g, .int .i64 s, .int .u64 m, .int .u64 x, .int .u64 p, .int .i64 d]] => some (Tr.leaf (SV.bool (f34_0 k a b r g s m x p d)))
  | _ => none
theorem s34 : Sound Try.prog th 34 (pureC f34) := pure_auto (us := us34) (nice := nice46) nok46 20 fun args t h => by
  unfold f34 at h
  split at h
  · cases h; kernel_rfl
  · cases h
noncomputable def nice34 : List (Nat × CF th.R) := (34, pureC f34) :: nice46
theorem nok34 : NiceOk Try.prog th nice34 := ⟨s34, nok46⟩
end Go.Sx.M

namespace Go.Sx.M
open Go Go.Sx Go.Proofs Go.RowKit
def us31 : List Un := [⟨173, [(2, 6)], [6]⟩, ⟨164, [(5, 7)], [15]⟩, ⟨46, [(4, 4)], [9]⟩]
def f31_0 (k : Int) (a : Int) (b : Int) (r : Int) (g : Int) (s : Int) (m : Int) (x : Int) (p : Int) (d : Int) : Bool := k == (0 : Int) && (a == (0 : Int) && (b == (0 : Int) && (r == (0 : Int) && (g == (0 : Int) && (s == (0 : Int) && (m == (0 : Int) && true)))))) && (x == (0 : Int) && (p == (0 : Int) && (d == (0 : Int) && true)))
def f31 : List SV → Option (Tr SV)
  | [.agg [.int .i64 k, .int .u64 a, .int .i64 b, .int .i64 r, .int .i64 g, .int .i64 s, .int .u64 m, .int .u64 x, .int .u64 p, .int .i64 d]] => some (Tr.leaf (SV.bool (f31_0 k a b r g s m x p d)))
  | _ => none
theorem s31 : Sound Try.prog th 31 (pureC f31) := pure_auto (us := us31) (nice := nice34) nok34 20 fun args t h => by
  unfold f31 at h
  split at h
  · cases h; kernel_rfl
  · cases h
noncomputable def nice31 : List (Nat × CF th.R) := (31, pureC f31) :: nice34
theorem nok31 : NiceOk Try.prog th nice31 := ⟨s31, nok34⟩
end Go.Sx.M

namespace Go.Sx.M
open Go Go.Sx Go.Proofs Go.RowKit
def us104 : List Un := [⟨173, [(2, 6)], [6]⟩, ⟨164, [(5, 7)], [15]⟩, ⟨46, [(4, 4)], [9]⟩]
def f104_0 (k : Int) (a : Int) (b : Int) (r : Int) (g : Int) (s : Int) (m : Int) (x : Int) (p : Int) (d : Int) : Prop := (0 : Int) ≤ (5 : Int)
def f104_1 (k : Int) (a : Int) (b : Int) (r : Int) (g : Int) (s : Int) (m : Int) (x : Int) (p : Int) (d : Int) : Prop := (0 : Int) ≤ (32 : Int)
def f104_2 (k : Int) (a : Int) (b : Int) (r : Int) (g : Int) (s : Int) (m : Int) (x : Int) (p : Int) (d : Int) : Int := f164_14 k a b r g s m
def f104_3 (k : Int) (a : Int) (b : Int) (r : Int) (g : Int) (s : Int) (m : Int) (x : Int) (p : Int) (d : Int) : Int := f164_15 k a b r g s m
def f104_4 (k : Int) (a : Int) (b : Int) (r : Int) (g : Int) (s : Int) (m : Int) (x : Int) (p : Int) (d : Int) : Int := Go.bits Go.BinOp.or IntKind.u64 (x.fdiv (32 : Int)) (IntKind.u64.wrap (p.fdiv (32 : Int) * (4294967296 : Int)))
def f104_5 (k : Int) (a : Int) (b : Int) (r : Int) (g : Int) (s : Int) (m : Int) (x : Int) (p : Int) (d : Int) : Int := IntKind.u64.wrap d
theorem n104_0 (k : Int) (a : Int) (b : Int) (r : Int) (g : Int) (s : Int) (m : Int) (x : Int) (p : Int) (d : Int) : f104_0 k a b r g s m x p d := by
  simp only [f104_0, cnd_eq]
  grind (splits := 40)
theorem n104_1 (k : Int) (a : Int) (b : Int) (r : Int) (g : Int) (s : Int) (m : Int) (x : Int) (p : Int) (d : Int) : f104_1 k a b r g s m x p d := by
  simp only [f104_1, cnd_eq]
  grind (splits := 40)
def f104 : List SV → Option (Tr SV)
  | [.agg [.int .i64 k, .int .u64 a, .int .i64 b, .int .i64 r, .int .i64 g, .int .i64 s, .int .u64 m, .int .u64 x, .int .u64 p, .int .i64 d]] => some (Tr.leaf (SV.agg [SV.int .u64 (f104_2 k a b r g s m x p d), SV.int .u64 (f104_3 k a b r g s m x p d), SV.int .u64 (f104_4 k a b r g s m x p d), SV.int .u64 (f104_5 k a b r g s m x p d)]))
  | _ => none
theorem s104 : Sound Try.prog th 104 (pureC f104) := pure_auto2 (us := us104) (nice := nice31) nok31 20 fun args t h => by
  unfold f104 at h
  split at h
  · rename_i k a b r g s m x p d
    cases h
    refine ⟨(Tr.need (f104_0 k a b r g s m x p d) (Tr.need (f104_0 k a b r g s m x p d) (Tr.need (f104_1 k a b r g s m x p d) (Tr.leaf (SV.agg [SV.int .u64 (f104_2 k a b r g s m x p d), SV.int .u64 (f104_3 k a b r g s m x p d), SV.int .u64 (f104_4 k a b r g s m x p d), SV.int .u64 (f104_5 k a b r g s m x p d)]))))), by kernel_rfl, fun ok => ?_, rfl⟩
    first
    | (simp only [Tr.ok, n104_0, n104_1, true_and, and_true, forall_const, implies_true]; done)
    | (simp only [Tr.ok, n104_0, n104_1, true_and, and_true, forall_const, implies_true]; done)
    | (simpa only [Tr.ok, n104_0, n104_1, true_and, and_true, forall_const, implies_true] using ok; done)
    | (simp only [Tr.ok, n104_0, n104_1, true_and, and_true, forall_const, implies_true] at ok ⊢; grind)
  · cases h
noncomputable def nice104 : List (Nat × CF th.R) := (104, pureC f104) :: nice31
theorem nok104 : NiceOk Try.prog th nice104 := ⟨s104, nok31⟩
end Go.Sx.M

namespace Go.Sx.M
open Go Go.Sx Go.Proofs Go.RowKit
def us92 : List Un := [⟨173, [(2, 6)], [6]⟩, ⟨164, [(5, 7)], [15]⟩, ⟨46, [(4, 4)], [9]⟩]
def f92_0 (k : Int) (a : Int) (b : Int) (r : Int) (g : Int) (s : Int) (m : Int) (x : Int) (p : Int) (d : Int) : Prop := cnd (cnd (f50_2 k a b r g s m) (decide (x < (4294967296 : Int))) false) true false = true → (32 : Int) ≠ (0 : Int)
def f92_1 (k : Int) (a : Int) (b : Int) (r : Int) (g : Int) (s : Int) (m : Int) (x : Int) (p : Int) (d : Int) : Prop := cnd (cnd (cnd (cnd (f50_2 k a b r g s m) (decide (x < (4294967296 : Int))) false) (x.tmod (32 : Int) == (0 : Int)) false) (decide (p < (4294967296 : Int))) false) true false = true → (32 : Int) ≠ (0 : Int)
def f92_2 (k : Int) (a : Int) (b : Int) (r : Int) (g : Int) (s : Int) (m : Int) (x : Int) (p : Int) (d : Int) : Bool := cnd (cnd (cnd (cnd (cnd (cnd (f50_2 k a b r g s m) (decide (x < (4294967296 : Int))) false) (x.tmod (32 : Int) == (0 : Int)) false) (decide (p < (4294967296 : Int))) false) (p.tmod (32 : Int) == (0 : Int)) false) (decide (d ≥ (0 : Int))) false) (decide (d ≤ (4096 : Int))) false
theorem n92_0 (k : Int) (a : Int) (b : Int) (r : Int) (g : Int) (s : Int) (m : Int) (x : Int) (p : Int) (d : Int) : f92_0 k a b r g s m x p d := by
  simp only [f92_0, cnd_eq]
  grind (splits := 40)
theorem n92_1 (k : Int) (a : Int) (b : Int) (r : Int) (g : Int) (s : Int) (m : Int) (x : Int) (p : Int) (d : Int) : f92_1 k a b r g s m x p d := by
  simp only [f92_1, cnd_eq]
  grind (splits := 40)
def f92 : List SV → Option (Tr SV)
  | [.agg [.int .i64 k, .int .u64 a, .int .i64 b, .int .i64 r, .int .i64 g, .int .i64 s, .int .u64 m, .int .u64 x, .int .u64 p, .int .i64 d]] => some (Tr.leaf (SV.bool (f92_2 k a b r g s m x p d)))
  | _ => none
theorem s92 : Sound Try.prog th 92 (pureC f92) := pure_auto2 (us := us92) (nice := nice104) nok104 20 fun args t h => by
  unfold f92 at h
  split at h
  · rename_i k a b r g s m x p d
    cases h
    refine ⟨(Tr.need (f92_0 k a b r g s m x p d) (Tr.need (f92_1 k a b r g s m x p d) (Tr.leaf (SV.bool (f92_2 k a b r g s m x p d))))), by kernel_rfl, fun ok => ?_, rfl⟩
    first
    | (simp only [Tr.ok, n92_0, n92_1, true_and, and_true, forall_const, implies_true]; done)
    | (simp only [Tr.ok, n92_0, n92_1, true_and, and_true, forall_const, implies_true]; done)
    | (simpa only [Tr.ok, n92_0, n92_1, true_and, and_true, forall_const, implies_true] using ok; done)
    | (simp only [Tr.ok, n92_0, n92_1, true_and, and_true, forall_const, implies_true] at ok ⊢; grind)
  · cases h
noncomputable def nice92 : List (Nat × CF th.R) := (92, pureC f92) :: nice104
theorem nok92 : NiceOk Try.prog th nice92 := ⟨s92, nok104⟩
end Go.Sx.M

namespace Go.Sx.M
open Go Go.Sx Go.Proofs Go.RowKit
def us93 : List Un := [⟨173, [(2, 6)], [6]⟩, ⟨164, [(5, 7)], [15]⟩, ⟨46, [(4, 4)], [9]⟩]
def f93_0 (k : Int) (a : Int) (b : Int) (r : Int) (g : Int) (s : Int) (m : Int) (x : Int) (p : Int) (d : Int) : Prop := (true = true → (32 : Int) ≠ (0 : Int)) ∧ (true = true → (32 : Int) ≠ (0 : Int))
def f93_1 (k : Int) (a : Int) (b : Int) (r : Int) (g : Int) (s : Int) (m : Int) (x : Int) (p : Int) (d : Int) : Int := f160_2 k a b r g s m
def f93_2 (k : Int) (a : Int) (b : Int) (r : Int) (g : Int) (s : Int) (m : Int) (x : Int) (p : Int) (d : Int) : Int := IntKind.u64.wrap (IntKind.u64.wrap (x.tdiv (32 : Int)) + IntKind.u64.wrap (IntKind.u64.wrap (p.tdiv (32 : Int)) * (4294967296 : Int)))
def f93_3 (k : Int) (a : Int) (b : Int) (r : Int) (g : Int) (s : Int) (m : Int) (x : Int) (p : Int) (d : Int) : Int := IntKind.u64.wrap d
theorem n93_0 (k : Int) (a : Int) (b : Int) (r : Int) (g : Int) (s : Int) (m : Int) (x : Int) (p : Int) (d : Int) : f93_0 k a b r g s m x p d := by
  simp only [f93_0, cnd_eq]
  grind (splits := 40)
def f93 : List SV → Option (Tr SV)
  | [.agg [.int .i64 k, .int .u64 a, .int .i64 b, .int .i64 r, .int .i64 g, .int .i64 s, .int .u64 m, .int .u64 x, .int .u64 p, .int .i64 d]] => some (Tr.leaf (SV.agg [SV.int .u64 (f93_1 k a b r g s m x p d), SV.int .u64 (m), SV.int .u64 (f93_2 k a b r g s m x p d), SV.int .u64 (f93_3 k a b r g s m x p d)]))
  | _ => none
theorem s93 : Sound Try.prog th 93 (pureC f93) := pure_auto2 (us := us93) (nice := nice92) nok92 20 fun args t h => by
  unfold f93 at h
  split at h
  · rename_i k a b r g s m x p d
    cases h
    refine ⟨(Tr.need (f93_0 k a b r g s m x p d) (Tr.leaf (SV.agg [SV.int .u64 (f93_1 k a b r g s m x p d), SV.int .u64 (m), SV.int .u64 (f93_2 k a b r g s m x p d), SV.int .u64 (f93_3 k a b r g s m x p d)]))), by kernel_rfl, fun ok => ?_, rfl⟩
    first
    | (simp only [Tr.ok, n93_0, true_and, and_true, forall_const, implies_true]; done)
    | (simp only [Tr.ok, n93_0, true_and, and_true, forall_const, implies_true]; done)
    | (simpa only [Tr.ok, n93_0, true_and, and_true, forall_const, implies_true] using ok; done)
    | (simp only [Tr.ok, n93_0, true_and, and_true, forall_const, implies_true] at ok ⊢; grind)
  · cases h
noncomputable def nice93 : List (Nat × CF th.R) := (93, pureC f93) :: nice92
theorem nok93 : NiceOk Try.prog th nice93 := ⟨s93, nok92⟩
end Go.Sx.M

namespace Go.Sx.M
open Go Go.Sx Go.Proofs Go.RowKit
def us33 : List Un := [⟨173, [(2, 6)], [6]⟩, ⟨164, [(5, 7)], [15]⟩, ⟨46, [(4, 4)], [9]⟩]
def f33 : List SV → Option (Tr SV)
  | [.agg [.int .i64 k, .int .u64 a, .int .i64 b, .int .i64 r, .int .i64 g, .int .i64 s, .int .u64 m, .int .u64 x, .int .u64 p, .int .i64 d]] => some (Tr.leaf (SV.agg [SV.int .i64 (k), SV.int .u64 (a), SV.int .i64 (b), SV.int .i64 (r), SV.int .i64 (g), SV.int .i64 (s), SV.int .u64 (m), SV.int .u64 (x), SV.int .u64 (p), SV.int .i64 (d)]))
  | _ => none
theorem s33 : Sound Try.prog th 33 (pureC f33) := pure_auto (us := us33) (nice := nice93) nok93 20 fun args t h => by
  unfold f33 at h
  split at h
  · cases h; kernel_rfl
  · cases h
noncomputable def nice33 : List (Nat × CF th.R) := (33, pureC f33) :: nice93
theorem nok33 : NiceOk Try.prog th nice33 := ⟨s33, nok93⟩
end Go.Sx.M

namespace Go.Sx.M
open Go Go.Sx Go.Proofs Go.RowKit
set_option maxRecDepth 100000
structure V24 where
  at_ : Int
  to_ : Int
  L : Nat
  Q : Nat
  ob : Obj
  k : Nat → Int
  b : Nat → Int
  n : Nat → Int
def A24 (v : V24) : List SV := [.int .u64 v.at_, .int .u64 v.to_, .slc 0 3 0 v.L]
def H24 (v : V24) : List (HO th.R) := [.ro 30 3 v.Q (fun j => [.int .i64 (v.k j), .int .i64 (v.b j), .int .i64 (v.n j)]) v.ob]
def toV24 (v : V24) : List (Vl th.R) := [.i v.at_, .i v.to_, .n v.L, .n v.Q, .o v.ob, .c v.k, .c v.b, .c v.n]
def ofV24 : List (Vl th.R) → Option V24
  | [.i at_, .i to_, .n L, .n Q, .o ob, .c k, .c b, .c n] => some ⟨at_, to_, L, Q, ob, k, b, n⟩
  | _ => none
def d24 : Ft := ⟨[.int .u64, .int .u64, .slc0 0 3], [.roc 30 [.int .i64, .int .i64, .int .i64]]⟩
structure P24_1 where
  x1 : Int
  n2 : Nat
  x12 : Int
  x14 : Int
  x16 : Int
  n19 : Nat
  x20 : Int
  x21 : Int
  x72 : Int
  N0 : Nat
  O0 : Obj
  F0_0 : Nat → Int
  F0_1 : Nat → Int
  F0_2 : Nat → Int
  xh2_0 : Int
  xh2_1 : Int
  xh2_2 : Int
structure S24_1 where
  n9 : Nat
  x73 : Int
  N3 : Nat
  F3_0 : Nat → Int
instance : Inhabited S24_1 := ⟨⟨0, 0, 0, fun _ => 0⟩⟩
def I24_1 (p : P24_1) (s : S24_1) : St th.R := ⟨[none, some (.int .u64 p.x1), some (.slc 0 3 0 p.n2), none, none, none, none, none, none, some (.slc 3 1 0 s.n9), none, none, some (.int .u64 p.x12), none, some (.int .i64 p.x14), none, some (.int .u64 p.x16), none, none, some (.slc 0 3 0 p.n19), some (.int .i64 p.x20), some (.int .i64 p.x21), none, none, none, none, none, none, none, none, none, none, none, none, none, none, none, none, none, none, none, none, none, none, none, none, none, none, none, none, none, none, none, none, none, none, none, none, none, none, none, none, none, none, none, none, none, none, none, none, none, none, some (.int .i64 p.x72), some (.int .i64 s.x73), none, none, none, none, none, none, none, none, none, none, none, none, none, none, none, none, none, none, none], [.ro 30 3 p.N0 (fun j => [.int .i64 (p.F0_0 j), .int .i64 (p.F0_1 j), .int .i64 (p.F0_2 j)]) p.O0, .gone, .cells 30 [.int .i64 p.xh2_0, .int .i64 p.xh2_1, .int .i64 p.xh2_2], .row 22 1 s.N3 (fun j => [.int .u64 (s.F3_0 j)])], [], []⟩
def d24_1 : Lp := ⟨⟨93, [(1, .int .u64), (2, .slc0 0 3), (9, .slc0 3 1), (12, .int .u64), (14, .int .i64), (16, .int .u64), (19, .slc0 0 3), (20, .int .i64), (21, .int .i64), (72, .int .i64), (73, .int .i64)], [.roc 30 [.int .i64, .int .i64, .int .i64], .gone, .cells 30 [.int .i64, .int .i64, .int .i64], .rowc 22 [.int .u64]]⟩, [⟨9, 22, 1⟩], 3, [1], [1, 2, 9, 12, 16, 19, 20, 21, 58, 59, 60, 63, 64, 65, 66, 67], []⟩
def toV24_1 (p : P24_1) (s : S24_1) : List (Vl th.R) := [.i p.x1, .n p.n2, .n s.n9, .i p.x12, .i p.x14, .i p.x16, .n p.n19, .i p.x20, .i p.x21, .i p.x72, .i s.x73, .n p.N0, .o p.O0, .c p.F0_0, .c p.F0_1, .c p.F0_2, .i p.xh2_0, .i p.xh2_1, .i p.xh2_2, .n s.N3, .c s.F3_0]
def ofV24_1 : List (Vl th.R) → Option (P24_1 × S24_1)
  | [.i x1, .n n2, .n n9, .i x12, .i x14, .i x16, .n n19, .i x20, .i x21, .i x72, .i x73, .n N0, .o O0, .c F0_0, .c F0_1, .c F0_2, .i xh2_0, .i xh2_1, .i xh2_2, .n N3, .c F3_0] => some (⟨x1, n2, x12, x14, x16, n19, x20, x21, x72, N0, O0, F0_0, F0_1, F0_2, xh2_0, xh2_1, xh2_2⟩, ⟨n9, x73, N3, F3_0⟩)
  | _ => none
noncomputable def e24_1_8 (p : P24_1) (s : S24_1) : (Nat) := s.n9 + (1 : Nat)
noncomputable def e24_1_9 (p : P24_1) (s : S24_1) : (Int) := IntKind.u64.wrap (p.x16 + IntKind.u64.wrap (IntKind.u64.wrap s.x73 * (2 : Int) ^ Min.min p.x14.toNat (64 : Nat)))
noncomputable def e24_1_0 (p : P24_1) (s : S24_1) : (Bool) := cnd (decide (s.x73 < p.x72)) false true
noncomputable def e24_1_1 (p : P24_1) (s : S24_1) : (Prop) := (∀ (i : Nat), scpL (0:Nat) ((fun (j : Nat) => [SV.int IntKind.i64 (p.F0_0 j), SV.int IntKind.i64 (p.F0_1 j), SV.int IntKind.i64 (p.F0_2 j)]) i) = true) ∧ ∀ (i : Nat), scpL (0:Nat) ((fun (j : Nat) => [SV.int IntKind.u64 (s.F3_0 j)]) i) = true
noncomputable def e24_1_2 (p : P24_1) (s : S24_1) : (Prop) := (0 : Int) ≤ p.x14
noncomputable def e24_1_3 (p : P24_1) (s : S24_1) : (Prop) := (0:Nat) = (0:Nat) ∧ s.n9 ≤ s.N3 ∧ (1 : Nat) ≤ (1 : Nat) ∧ e24_1_8 p s * (4096 : Nat) ≤ (140737488355328 : Nat) ∧ e24_1_8 p s ≤ (9223372036854775807 : Nat)
noncomputable def e24_1_4 (p : P24_1) (s : S24_1) : (Prop) := ((∀ (i : Nat), scpL (0:Nat) ((fun (j : Nat) => [SV.int IntKind.i64 (p.F0_0 j), SV.int IntKind.i64 (p.F0_1 j), SV.int IntKind.i64 (p.F0_2 j)]) i) = true) ∧ ∀ (i : Nat), scpL (0:Nat) ((fun (i : Nat) => rowSet (i.blt s.n9) ((fun (j : Nat) => [SV.int IntKind.u64 (s.F3_0 j)]) i) (rowEl (1 : Nat) (1 : Nat) (setMany (List.map (fun (i : Nat) => [SV.int IntKind.u64 (0 : Int)].getD (i % (1 : Nat)) Inhabited.default) (List.range (1 : Nat))) (0:Nat) (SV.int IntKind.u64 (e24_1_9 p s)).cells) ((0:Nat) + (i - s.n9)))) i) = true) ∧ (∀ (i : Nat), i < p.N0 → (fun (j : Nat) => [SV.int IntKind.i64 (p.F0_0 j), SV.int IntKind.i64 (p.F0_1 j), SV.int IntKind.i64 (p.F0_2 j)]) i = elC (fun (j : Nat) => [SV.int IntKind.i64 (p.F0_0 j), SV.int IntKind.i64 (p.F0_1 j), SV.int IntKind.i64 (p.F0_2 j)]) (0:Nat) [Ck.int IntKind.i64, Ck.int IntKind.i64, Ck.int IntKind.i64] i) ∧ ∀ (i : Nat), i < e24_1_8 p s → (fun (i : Nat) => rowSet (i.blt s.n9) ((fun (j : Nat) => [SV.int IntKind.u64 (s.F3_0 j)]) i) (rowEl (1 : Nat) (1 : Nat) (setMany (List.map (fun (i : Nat) => [SV.int IntKind.u64 (0 : Int)].getD (i % (1 : Nat)) Inhabited.default) (List.range (1 : Nat))) (0:Nat) (SV.int IntKind.u64 (e24_1_9 p s)).cells) ((0:Nat) + (i - s.n9)))) i = elC (fun (i : Nat) => rowSet (i.blt s.n9) ((fun (j : Nat) => [SV.int IntKind.u64 (s.F3_0 j)]) i) (rowEl (1 : Nat) (1 : Nat) (setMany (List.map (fun (i : Nat) => [SV.int IntKind.u64 (0 : Int)].getD (i % (1 : Nat)) Inhabited.default) (List.range (1 : Nat))) (0:Nat) (SV.int IntKind.u64 (e24_1_9 p s)).cells) ((0:Nat) + (i - s.n9)))) (0:Nat) [Ck.int IntKind.u64] i
noncomputable def e24_1_5 (p : P24_1) (s : S24_1) : (Nat) := e24_1_8 p s
noncomputable def e24_1_6 (p : P24_1) (s : S24_1) : (Int) := IntKind.i64.wrap (s.x73 + (1 : Int))
noncomputable def e24_1_7 (p : P24_1) (s : S24_1) : Nat → (Int) := fun (j : Nat) => cnd (j.blt s.n9) (s.F3_0 j) (e24_1_9 p s)
theorem n_e24_1_1 (p : P24_1) (s : S24_1) : e24_1_1 p s := by
  unfold e24_1_1
  first
    | (intros; rfl)
    | (intro i; rfl)
    | (intro i _; rfl)
    | (intro _ i; rfl)
    | (intro _ i _; rfl)
    | (refine ⟨?_, ?_⟩ <;> intro i <;> rfl)
    | (refine ⟨?_, ?_, ?_⟩ <;> intro i <;> rfl)
    | (refine ⟨?_, ?_⟩ <;> intro i _ <;> rfl)
    | (repeat' apply And.intro) <;> first | (intro i; rfl) | (intro i _; rfl) | (intro i h; exact absurd h (Nat.not_lt_zero i)) | (intro i; exact scpL_rowSet (by rfl) (by rfl)) | (intro i; exact scpL_rowEl (by kernel_rfl) _)
    | (intros; (repeat' apply And.intro) <;> intros <;> first | rfl | (exact absurd (by assumption) (Nat.not_lt_zero _)))
    | omega
    | decide
theorem n_e24_1_4 (p : P24_1) (s : S24_1) : e24_1_4 p s := by
  unfold e24_1_4
  first
    | (intros; rfl)
    | (intro i; rfl)
    | (intro i _; rfl)
    | (intro _ i; rfl)
    | (intro _ i _; rfl)
    | (refine ⟨?_, ?_⟩ <;> intro i <;> rfl)
    | (refine ⟨?_, ?_, ?_⟩ <;> intro i <;> rfl)
    | (refine ⟨?_, ?_⟩ <;> intro i _ <;> rfl)
    | (repeat' apply And.intro) <;> first | (intro i; rfl) | (intro i _; rfl) | (intro i h; exact absurd h (Nat.not_lt_zero i)) | (intro i; exact scpL_rowSet (by rfl) (by rfl)) | (intro i; exact scpL_rowEl (by kernel_rfl) _)
    | (intros; (repeat' apply And.intro) <;> intros <;> first | rfl | (exact absurd (by assumption) (Nat.not_lt_zero _)))
    | omega
    | decide
noncomputable def rf24_1 (p : P24_1) (s : S24_1) : Tr (Rs th.R S24_1) := (Tr.ite (e24_1_0 p s) (Tr.need (e24_1_1 p s) (Tr.leaf (Rs.out (Ex.exit (2 : Nat)) [none, some (SV.int .u64 (p.x1)), (some (SV.slc (0:Nat) (3 : Nat) (0:Nat) (p.n2))), none, none, none, none, none, none, (some (SV.slc (3) (1 : Nat) (0:Nat) (s.n9))), none, none, some (SV.int .u64 (p.x12)), none, none, none, some (SV.int .u64 (p.x16)), none, none, (some (SV.slc (0:Nat) (3 : Nat) (0:Nat) (p.n19))), some (SV.int .i64 (p.x20)), some (SV.int .i64 (p.x21)), none, none, none, none, none, none, none, none, none, none, none, none, none, none, none, none, none, none, none, none, none, none, none, none, none, none, none, none, none, none, none, none, none, none, none, none, none, none, none, none, none, none, none, none, none, none, none, none, none, none, none, none, none, none, none, none, none, none, none, none, none, none, none, none, none, none, none, none, none, none, none] [(HO.ro (30 : Nat) (3 : Nat) (p.N0) (fun j => [SV.int .i64 (p.F0_0 j), SV.int .i64 (p.F0_1 j), SV.int .i64 (p.F0_2 j)]) (p.O0)), HO.gone, (HO.cells (30 : Nat) [SV.int .i64 (p.xh2_0), SV.int .i64 (p.xh2_1), SV.int .i64 (p.xh2_2)]), (HO.row (22 : Nat) (1 : Nat) (s.N3) (fun j => [SV.int .u64 (s.F3_0 j)]))]))) (Tr.need (e24_1_2 p s) (Tr.need (e24_1_3 p s) (Tr.need (e24_1_4 p s) (Tr.leaf (Rs.on (S24_1.mk ((e24_1_5 p s)) ((e24_1_6 p s)) ((e24_1_5 p s)) ((fun j => (e24_1_7 p s j))))))))))
noncomputable def r24_1 (p : P24_1) (s : S24_1) : Tr (Rs th.R S24_1) := (Tr.ite (e24_1_0 p s) (Tr.leaf (Rs.out (Ex.exit (2 : Nat)) [none, some (SV.int .u64 (p.x1)), (some (SV.slc (0:Nat) (3 : Nat) (0:Nat) (p.n2))), none, none, none, none, none, none, (some (SV.slc (3) (1 : Nat) (0:Nat) (s.n9))), none, none, some (SV.int .u64 (p.x12)), none, none, none, some (SV.int .u64 (p.x16)), none, none, (some (SV.slc (0:Nat) (3 : Nat) (0:Nat) (p.n19))), some (SV.int .i64 (p.x20)), some (SV.int .i64 (p.x21)), none, none, none, none, none, none, none, none, none, none, none, none, none, none, none, none, none, none, none, none, none, none, none, none, none, none, none, none, none, none, none, none, none, none, none, none, none, none, none, none, none, none, none, none, none, none, none, none, none, none, none, none, none, none, none, none, none, none, none, none, none, none, none, none, none, none, none, none, none, none, none] [(HO.ro (30 : Nat) (3 : Nat) (p.N0) (fun j => [SV.int .i64 (p.F0_0 j), SV.int .i64 (p.F0_1 j), SV.int .i64 (p.F0_2 j)]) (p.O0)), HO.gone, (HO.cells (30 : Nat) [SV.int .i64 (p.xh2_0), SV.int .i64 (p.xh2_1), SV.int .i64 (p.xh2_2)]), (HO.row (22 : Nat) (1 : Nat) (s.N3) (fun j => [SV.int .u64 (s.F3_0 j)]))])) (Tr.need (e24_1_2 p s) (Tr.need (e24_1_3 p s) (Tr.leaf (Rs.on (S24_1.mk ((e24_1_5 p s)) ((e24_1_6 p s)) ((e24_1_5 p s)) ((fun j => (e24_1_7 p s j)))))))))
noncomputable def E24_1 : St th.R → Out th := evCode th Try.prog (auto th Try.prog nice33 [] 20) (autoH [] [] [] [6, 9, 90] : Hints th) (lpAt Try.prog 24 1)
theorem B24_1 : CodeSound th Try.prog (lpAt Try.prog 24 1) E24_1 := evCode_sound (T := th) (P := Try.prog) (tbl := (auto th Try.prog nice33 [] 20)) (auto_sound (nice := nice33) (us := []) nok33 20) (autoH [] [] [] [6, 9, 90] : Hints th) _ (LoopsOk_mem (fun _ => rfl) _ fun b hb L hL => by cases hL)
noncomputable def L24_1 : St th.R → Out th := loopL d24_1 ofV24_1 r24_1
theorem h1_24_1 (p : P24_1) (s : S24_1) : bld d24_1.tm (toV24_1 p s) = some (I24_1 p s) := by kernel_rfl
theorem h2_24_1 (l : List (Vl th.R)) (p : P24_1) (s : S24_1) (h : ofV24_1 l = some (p, s)) : l = toV24_1 p s := by
  unfold ofV24_1 at h
  split at h
  · cases h; rfl
  · cases h
theorem h3_24_1 (p : P24_1) (s : S24_1) : cvE d24_1 (E24_1 (I24_1 p s)) = some ((rf24_1 p s).map (Rs.map (toV24_1 p))) := by kernel_rfl
theorem h3g_24_1 (p : P24_1) (s : S24_1) : (rf24_1 p s).get = (r24_1 p s).get := by kernel_rfl
theorem h4_24_1 (p : P24_1) (s s1 : S24_1) : outH d24_1.dirt d24_1.n0 (r24_1 p s) = repH (maskH d24_1.dirt 0 d24_1.n0 (I24_1 p s1).heap) (r24_1 p s) := by kernel_rfl
theorem ls24_1 : CodeSound th Try.prog (.loop (lpAt Try.prog 24 1)) L24_1 := loopL_sound B24_1 d24_1 I24_1 toV24_1 (by kernel_rfl) h1_24_1 h2_24_1
  (fun p s => ⟨(rf24_1 p s).map (Rs.map (toV24_1 p)), h3_24_1 p s, fun h => by
    rw [Tr.map_ok]
    unfold r24_1 at h; unfold rf24_1
    simp only [Tr.ok, n_e24_1_1, n_e24_1_4, true_and, and_true, forall_const, implies_true] at h ⊢
    try exact h, by rw [Tr.map_get, h3g_24_1 p s]⟩) h4_24_1
structure P24_0 where
  x1 : Int
  n2 : Nat
  n19 : Nat
  x20 : Int
  N0 : Nat
  O0 : Obj
  F0_0 : Nat → Int
  F0_1 : Nat → Int
  F0_2 : Nat → Int
structure S24_0 where
  x0 : Int
  n9 : Nat
  x21 : Int
  N1 : Nat
  F1_0 : Nat → Int
instance : Inhabited S24_0 := ⟨⟨0, 0, 0, 0, fun _ => 0⟩⟩
def I24_0 (p : P24_0) (s : S24_0) : St th.R := ⟨[some (.int .u64 s.x0), some (.int .u64 p.x1), some (.slc 0 3 0 p.n2), none, none, none, none, none, none, some (.slc 1 1 0 s.n9), none, none, none, none, none, none, none, none, none, some (.slc 0 3 0 p.n19), some (.int .i64 p.x20), some (.int .i64 s.x21), none, none, none, none, none, none, none, none, none, none, none, none, none, none, none, none, none, none, none, none, none, none, none, none, none, none, none, none, none, none, none, none, none, none, none, none, none, none, none, none, none, none, none, none, none, none, none, none, none, none, none, none, none, none, none, none, none, none, none, none, none, none, none, none, none, none, none, none, none, none, none], [.ro 30 3 p.N0 (fun j => [.int .i64 (p.F0_0 j), .int .i64 (p.F0_1 j), .int .i64 (p.F0_2 j)]) p.O0, .row 22 1 s.N1 (fun j => [.int .u64 (s.F1_0 j)])], [], []⟩
def d24_0 : Lp := ⟨⟨93, [(0, .int .u64), (1, .int .u64), (2, .slc0 0 3), (9, .slc0 1 1), (19, .slc0 0 3), (20, .int .i64), (21, .int .i64)], [.roc 30 [.int .i64, .int .i64, .int .i64], .rowc 22 [.int .u64]]⟩, [⟨9, 22, 1⟩], 1, [], [2, 6, 7, 8, 9], []⟩
def toV24_0 (p : P24_0) (s : S24_0) : List (Vl th.R) := [.i s.x0, .i p.x1, .n p.n2, .n s.n9, .n p.n19, .i p.x20, .i s.x21, .n p.N0, .o p.O0, .c p.F0_0, .c p.F0_1, .c p.F0_2, .n s.N1, .c s.F1_0]
def ofV24_0 : List (Vl th.R) → Option (P24_0 × S24_0)
  | [.i x0, .i x1, .n n2, .n n9, .n n19, .i x20, .i x21, .n N0, .o O0, .c F0_0, .c F0_1, .c F0_2, .n N1, .c F1_0] => some (⟨x1, n2, n19, x20, N0, O0, F0_0, F0_1, F0_2⟩, ⟨x0, n9, x21, N1, F1_0⟩)
  | _ => none
noncomputable def e24_0_16 (p : P24_0) (s : S24_0) : (Nat) := (0:Nat) + s.x21.toNat
noncomputable def e24_0_17 (p : P24_0) (s : S24_0) : (Int) := p.F0_0 (e24_0_16 p s)
noncomputable def e24_0_18 (p : P24_0) (s : S24_0) : (Int) := p.F0_1 (e24_0_16 p s)
noncomputable def e24_0_19 (p : P24_0) (s : S24_0) : (Int) := p.F0_2 (e24_0_16 p s)
noncomputable def e24_0_20 (p : P24_0) (s : S24_0) : (Int) := f95_2 (e24_0_17 p s) (e24_0_18 p s) (e24_0_19 p s)
noncomputable def e24_0_21 (p : P24_0) (s : S24_0) : (Int) := f97_0 (e24_0_17 p s) (e24_0_18 p s)
noncomputable def e24_0_22 (p : P24_0) (s : S24_0) : (Int) := f98_0 s.x0 (e24_0_21 p s)
noncomputable def e24_0_23 (p : P24_0) (s : S24_0) : (Int) := f95_1 (e24_0_17 p s) (e24_0_18 p s) (e24_0_19 p s)
noncomputable def e24_0_24 (p : P24_0) (s : S24_0) : (Int) := IntKind.u64.wrap (p.x1 - e24_0_22 p s)
noncomputable def e24_0_25 (p : P24_0) (s : S24_0) : (S24_1) := lastS (r24_1 (P24_1.mk p.x1 p.n2 (e24_0_23 p s) (e24_0_21 p s) (e24_0_22 p s) p.n19 p.x20 s.x21 (e24_0_19 p s) p.N0 p.O0 p.F0_0 p.F0_1 p.F0_2 (e24_0_17 p s) (e24_0_18 p s) (e24_0_19 p s))) (S24_1.mk s.n9 (0 : Int) s.N1 s.F1_0)
noncomputable def e24_0_26 (p : P24_0) (s : S24_0) : (Nat) := (e24_0_25 p s).N3
noncomputable def e24_0_0 (p : P24_0) (s : S24_0) : (Bool) := cnd (decide (s.x21 < p.x20)) false true
noncomputable def e24_0_1 (p : P24_0) (s : S24_0) : (Prop) := (∀ (i : Nat), scpL (0:Nat) ((fun (j : Nat) => [SV.int IntKind.i64 (p.F0_0 j), SV.int IntKind.i64 (p.F0_1 j), SV.int IntKind.i64 (p.F0_2 j)]) i) = true) ∧ ∀ (i : Nat), scpL (0:Nat) ((fun (j : Nat) => [SV.int IntKind.u64 (s.F1_0 j)]) i) = true
noncomputable def e24_0_2 (p : P24_0) (s : S24_0) : (Prop) := (0 : Int) ≤ s.x21 ∧ s.x21 < (↑p.n19 : Int)
noncomputable def e24_0_3 (p : P24_0) (s : S24_0) : (Prop) := e24_0_16 p s < p.N0
noncomputable def e24_0_4 (p : P24_0) (s : S24_0) : (Prop) := f95_0 (e24_0_17 p s) (e24_0_18 p s) (e24_0_19 p s)
noncomputable def e24_0_5 (p : P24_0) (s : S24_0) : (Bool) := e24_0_20 p s != (0 : Int)
noncomputable def e24_0_6 (p : P24_0) (s : S24_0) : (Int) := e24_0_20 p s
noncomputable def e24_0_7 (p : P24_0) (s : S24_0) : (Bool) := cnd (cnd (!f98_1 s.x0 (e24_0_21 p s)) true (decide (e24_0_22 p s > p.x1))) true (decide (e24_0_23 p s > e24_0_24 p s))
noncomputable def e24_0_8 (p : P24_0) (s : S24_0) : (Prop) := (∀ (i : Nat), i < p.N0 → (fun (j : Nat) => [SV.int IntKind.i64 (p.F0_0 j), SV.int IntKind.i64 (p.F0_1 j), SV.int IntKind.i64 (p.F0_2 j)]) i = elC (fun (j : Nat) => [SV.int IntKind.i64 (p.F0_0 j), SV.int IntKind.i64 (p.F0_1 j), SV.int IntKind.i64 (p.F0_2 j)]) (0:Nat) [Ck.int IntKind.i64, Ck.int IntKind.i64, Ck.int IntKind.i64] i) ∧ ∀ (i : Nat), i < s.N1 → (fun (j : Nat) => [SV.int IntKind.u64 (s.F1_0 j)]) i = elC (fun (j : Nat) => [SV.int IntKind.u64 (s.F1_0 j)]) (0:Nat) [Ck.int IntKind.u64] i
noncomputable def e24_0_9 (p : P24_0) (s : S24_0) : (Prop) := LT (r24_1 (P24_1.mk p.x1 p.n2 (e24_0_23 p s) (e24_0_21 p s) (e24_0_22 p s) p.n19 p.x20 s.x21 (e24_0_19 p s) p.N0 p.O0 p.F0_0 p.F0_1 p.F0_2 (e24_0_17 p s) (e24_0_18 p s) (e24_0_19 p s))) (S24_1.mk s.n9 (0 : Int) s.N1 s.F1_0)
noncomputable def e24_0_10 (p : P24_0) (s : S24_0) : (Prop) := ((∀ (i : Nat), scpL (0:Nat) ((fun (j : Nat) => [SV.int IntKind.i64 (p.F0_0 j), SV.int IntKind.i64 (p.F0_1 j), SV.int IntKind.i64 (p.F0_2 j)]) i) = true) ∧ ∀ (i : Nat), scpL (0:Nat) ((fun (j : Nat) => [SV.int IntKind.u64 ((e24_0_25 p s).F3_0 j)]) i) = true) ∧ (∀ (i : Nat), i < p.N0 → (fun (j : Nat) => [SV.int IntKind.i64 (p.F0_0 j), SV.int IntKind.i64 (p.F0_1 j), SV.int IntKind.i64 (p.F0_2 j)]) i = elC (fun (j : Nat) => [SV.int IntKind.i64 (p.F0_0 j), SV.int IntKind.i64 (p.F0_1 j), SV.int IntKind.i64 (p.F0_2 j)]) (0:Nat) [Ck.int IntKind.i64, Ck.int IntKind.i64, Ck.int IntKind.i64] i) ∧ ∀ (i : Nat), i < e24_0_26 p s → (fun (j : Nat) => [SV.int IntKind.u64 ((e24_0_25 p s).F3_0 j)]) i = elC (fun (j : Nat) => [SV.int IntKind.u64 ((e24_0_25 p s).F3_0 j)]) (0:Nat) [Ck.int IntKind.u64] i
noncomputable def e24_0_11 (p : P24_0) (s : S24_0) : (Int) := IntKind.u64.wrap (e24_0_22 p s + e24_0_23 p s)
noncomputable def e24_0_12 (p : P24_0) (s : S24_0) : (Nat) := (e24_0_25 p s).n9
noncomputable def e24_0_13 (p : P24_0) (s : S24_0) : (Int) := IntKind.i64.wrap (s.x21 + (1 : Int))
noncomputable def e24_0_14 (p : P24_0) (s : S24_0) : (Nat) := e24_0_26 p s
noncomputable def e24_0_15 (p : P24_0) (s : S24_0) : (Nat → Int) := (e24_0_25 p s).F3_0
theorem n_e24_0_1 (p : P24_0) (s : S24_0) : e24_0_1 p s := by
  unfold e24_0_1
  first
    | (intros; rfl)
    | (intro i; rfl)
    | (intro i _; rfl)
    | (intro _ i; rfl)
    | (intro _ i _; rfl)
    | (refine ⟨?_, ?_⟩ <;> intro i <;> rfl)
    | (refine ⟨?_, ?_, ?_⟩ <;> intro i <;> rfl)
    | (refine ⟨?_, ?_⟩ <;> intro i _ <;> rfl)
    | (repeat' apply And.intro) <;> first | (intro i; rfl) | (intro i _; rfl) | (intro i h; exact absurd h (Nat.not_lt_zero i)) | (intro i; exact scpL_rowSet (by rfl) (by rfl)) | (intro i; exact scpL_rowEl (by kernel_rfl) _)
    | (intros; (repeat' apply And.intro) <;> intros <;> first | rfl | (exact absurd (by assumption) (Nat.not_lt_zero _)))
    | omega
    | decide
theorem n_e24_0_8 (p : P24_0) (s : S24_0) : e24_0_8 p s := by
  unfold e24_0_8
  first
    | (intros; rfl)
    | (intro i; rfl)
    | (intro i _; rfl)
    | (intro _ i; rfl)
    | (intro _ i _; rfl)
    | (refine ⟨?_, ?_⟩ <;> intro i <;> rfl)
    | (refine ⟨?_, ?_, ?_⟩ <;> intro i <;> rfl)
    | (refine ⟨?_, ?_⟩ <;> intro i _ <;> rfl)
    | (repeat' apply And.intro) <;> first | (intro i; rfl) | (intro i _; rfl) | (intro i h; exact absurd h (Nat.not_lt_zero i)) | (intro i; exact scpL_rowSet (by rfl) (by rfl)) | (intro i; exact scpL_rowEl (by kernel_rfl) _)
    | (intros; (repeat' apply And.intro) <;> intros <;> first | rfl | (exact absurd (by assumption) (Nat.not_lt_zero _)))
    | omega
    | decide
theorem n_e24_0_10 (p : P24_0) (s : S24_0) : e24_0_10 p s := by
  unfold e24_0_10
  first
    | (intros; rfl)
    | (intro i; rfl)
    | (intro i _; rfl)
    | (intro _ i; rfl)
    | (intro _ i _; rfl)
    | (refine ⟨?_, ?_⟩ <;> intro i <;> rfl)
    | (refine ⟨?_, ?_, ?_⟩ <;> intro i <;> rfl)
    | (refine ⟨?_, ?_⟩ <;> intro i _ <;> rfl)
    | (repeat' apply And.intro) <;> first | (intro i; rfl) | (intro i _; rfl) | (intro i h; exact absurd h (Nat.not_lt_zero i)) | (intro i; exact scpL_rowSet (by rfl) (by rfl)) | (intro i; exact scpL_rowEl (by kernel_rfl) _)
    | (intros; (repeat' apply And.intro) <;> intros <;> first | rfl | (exact absurd (by assumption) (Nat.not_lt_zero _)))
    | omega
    | decide
noncomputable def rf24_0 (p : P24_0) (s : S24_0) : Tr (Rs th.R S24_0) := (Tr.ite (e24_0_0 p s) (Tr.need (e24_0_1 p s) (Tr.leaf (Rs.out (Ex.exit (0:Nat)) [none, none, (some (SV.slc (0:Nat) (3 : Nat) (0:Nat) (p.n2))), none, none, none, none, none, none, (some (SV.slc (1) (1 : Nat) (0:Nat) (s.n9))), none, none, none, none, none, none, none, none, none, none, none, none, none, none, none, none, none, none, none, none, none, none, none, none, none, none, none, none, none, none, none, none, none, none, none, none, none, none, none, none, none, none, none, none, none, none, none, none, none, none, none, none, none, none, none, none, none, none, none, none, none, none, none, none, none, none, none, none, none, none, none, none, none, none, none, none, none, none, none, none, none, none, none] [(HO.ro (30 : Nat) (3 : Nat) (p.N0) (fun j => [SV.int .i64 (p.F0_0 j), SV.int .i64 (p.F0_1 j), SV.int .i64 (p.F0_2 j)]) (p.O0)), (HO.row (22 : Nat) (1 : Nat) (s.N1) (fun j => [SV.int .u64 (s.F1_0 j)]))]))) (Tr.need (e24_0_2 p s) (Tr.need (e24_0_3 p s) (Tr.need (e24_0_4 p s) (Tr.ite (e24_0_5 p s) (Tr.need (e24_0_1 p s) (Tr.leaf (Rs.out (Ex.ret) [none, none, (some (SV.slc (0:Nat) (3 : Nat) (0:Nat) (p.n2))), none, none, none, (some (SV.slc (1) (1 : Nat) (0:Nat) (s.n9))), some (SV.int .i64 (s.x21)), some (SV.int .i64 (e24_0_6 p s)), (some (SV.slc (1) (1 : Nat) (0:Nat) (s.n9))), none, none, none, none, none, none, none, none, none, none, none, none, none, none, none, none, none, none, none, none, none, none, none, none, none, none, none, none, none, none, none, none, none, none, none, none, none, none, none, none, none, none, none, none, none, none, none, none, none, none, none, none, none, none, none, none, none, none, none, none, none, none, none, none, none, none, none, none, none, none, none, none, none, none, none, none, none, none, none, none, none, none, none] [(HO.ro (30 : Nat) (3 : Nat) (p.N0) (fun j => [SV.int .i64 (p.F0_0 j), SV.int .i64 (p.F0_1 j), SV.int .i64 (p.F0_2 j)]) (p.O0)), (HO.row (22 : Nat) (1 : Nat) (s.N1) (fun j => [SV.int .u64 (s.F1_0 j)]))]))) (Tr.ite (e24_0_7 p s) (Tr.need (e24_0_1 p s) (Tr.leaf (Rs.out (Ex.ret) [none, none, (some (SV.slc (0:Nat) (3 : Nat) (0:Nat) (p.n2))), none, none, none, (some (SV.slc (1) (1 : Nat) (0:Nat) (s.n9))), some (SV.int .i64 (s.x21)), (some (SV.int .i64 (40 : Int))), (some (SV.slc (1) (1 : Nat) (0:Nat) (s.n9))), none, none, none, none, none, none, none, none, none, none, none, none, none, none, none, none, none, none, none, none, none, none, none, none, none, none, none, none, none, none, none, none, none, none, none, none, none, none, none, none, none, none, none, none, none, none, none, none, none, none, none, none, none, none, none, none, none, none, none, none, none, none, none, none, none, none, none, none, none, none, none, none, none, none, none, none, none, none, none, none, none, none, none] [(HO.ro (30 : Nat) (3 : Nat) (p.N0) (fun j => [SV.int .i64 (p.F0_0 j), SV.int .i64 (p.F0_1 j), SV.int .i64 (p.F0_2 j)]) (p.O0)), (HO.row (22 : Nat) (1 : Nat) (s.N1) (fun j => [SV.int .u64 (s.F1_0 j)]))]))) (Tr.need (e24_0_8 p s) (Tr.need (e24_0_9 p s) (Tr.need (e24_0_10 p s) (Tr.leaf (Rs.on (S24_0.mk ((e24_0_11 p s)) ((e24_0_12 p s)) ((e24_0_13 p s)) ((e24_0_14 p s)) ((e24_0_15 p s))))))))))))))
noncomputable def r24_0 (p : P24_0) (s : S24_0) : Tr (Rs th.R S24_0) := (Tr.ite (e24_0_0 p s) (Tr.leaf (Rs.out (Ex.exit (0:Nat)) [none, none, (some (SV.slc (0:Nat) (3 : Nat) (0:Nat) (p.n2))), none, none, none, none, none, none, (some (SV.slc (1) (1 : Nat) (0:Nat) (s.n9))), none, none, none, none, none, none, none, none, none, none, none, none, none, none, none, none, none, none, none, none, none, none, none, none, none, none, none, none, none, none, none, none, none, none, none, none, none, none, none, none, none, none, none, none, none, none, none, none, none, none, none, none, none, none, none, none, none, none, none, none, none, none, none, none, none, none, none, none, none, none, none, none, none, none, none, none, none, none, none, none, none, none, none] [(HO.ro (30 : Nat) (3 : Nat) (p.N0) (fun j => [SV.int .i64 (p.F0_0 j), SV.int .i64 (p.F0_1 j), SV.int .i64 (p.F0_2 j)]) (p.O0)), (HO.row (22 : Nat) (1 : Nat) (s.N1) (fun j => [SV.int .u64 (s.F1_0 j)]))])) (Tr.need (e24_0_2 p s) (Tr.need (e24_0_3 p s) (Tr.need (e24_0_4 p s) (Tr.ite (e24_0_5 p s) (Tr.leaf (Rs.out (Ex.ret) [none, none, (some (SV.slc (0:Nat) (3 : Nat) (0:Nat) (p.n2))), none, none, none, (some (SV.slc (1) (1 : Nat) (0:Nat) (s.n9))), some (SV.int .i64 (s.x21)), some (SV.int .i64 (e24_0_6 p s)), (some (SV.slc (1) (1 : Nat) (0:Nat) (s.n9))), none, none, none, none, none, none, none, none, none, none, none, none, none, none, none, none, none, none, none, none, none, none, none, none, none, none, none, none, none, none, none, none, none, none, none, none, none, none, none, none, none, none, none, none, none, none, none, none, none, none, none, none, none, none, none, none, none, none, none, none, none, none, none, none, none, none, none, none, none, none, none, none, none, none, none, none, none, none, none, none, none, none, none] [(HO.ro (30 : Nat) (3 : Nat) (p.N0) (fun j => [SV.int .i64 (p.F0_0 j), SV.int .i64 (p.F0_1 j), SV.int .i64 (p.F0_2 j)]) (p.O0)), (HO.row (22 : Nat) (1 : Nat) (s.N1) (fun j => [SV.int .u64 (s.F1_0 j)]))])) (Tr.ite (e24_0_7 p s) (Tr.leaf (Rs.out (Ex.ret) [none, none, (some (SV.slc (0:Nat) (3 : Nat) (0:Nat) (p.n2))), none, none, none, (some (SV.slc (1) (1 : Nat) (0:Nat) (s.n9))), some (SV.int .i64 (s.x21)), (some (SV.int .i64 (40 : Int))), (some (SV.slc (1) (1 : Nat) (0:Nat) (s.n9))), none, none, none, none, none, none, none, none, none, none, none, none, none, none, none, none, none, none, none, none, none, none, none, none, none, none, none, none, none, none, none, none, none, none, none, none, none, none, none, none, none, none, none, none, none, none, none, none, none, none, none, none, none, none, none, none, none, none, none, none, none, none, none, none, none, none, none, none, none, none, none, none, none, none, none, none, none, none, none, none, none, none, none] [(HO.ro (30 : Nat) (3 : Nat) (p.N0) (fun j => [SV.int .i64 (p.F0_0 j), SV.int .i64 (p.F0_1 j), SV.int .i64 (p.F0_2 j)]) (p.O0)), (HO.row (22 : Nat) (1 : Nat) (s.N1) (fun j => [SV.int .u64 (s.F1_0 j)]))])) (Tr.need (e24_0_9 p s) (Tr.leaf (Rs.on (S24_0.mk ((e24_0_11 p s)) ((e24_0_12 p s)) ((e24_0_13 p s)) ((e24_0_14 p s)) ((e24_0_15 p s))))))))))))
noncomputable def E24_0 : St th.R → Out th := evCode th Try.prog (auto th Try.prog nice33 [] 20) (autoH [(13, L24_1)] [] [] [6, 9, 90] : Hints th) (lpAt Try.prog 24 0)
theorem ok24_0 : LoopsOk th Try.prog (autoH [(13, L24_1)] [] [] [6, 9, 90] : Hints th) (lpAt Try.prog 24 0) := autoH_ok (bs := [lpAt Try.prog 24 1]) (by kernel_rfl) fun b hb L hL => by
  simp only [List.mem_cons, List.not_mem_nil, or_false] at hb
  rcases hb with rfl
  · have e : lookL [(13, L24_1)] (firstReg (lpAt Try.prog 24 1)) = some L24_1 := by kernel_rfl
    rw [e] at hL; cases hL
    exact ls24_1
theorem B24_0 : CodeSound th Try.prog (lpAt Try.prog 24 0) E24_0 := evCode_sound (T := th) (P := Try.prog) (tbl := (auto th Try.prog nice33 [] 20)) (auto_sound (nice := nice33) (us := []) nok33 20) (autoH [(13, L24_1)] [] [] [6, 9, 90] : Hints th) _ ok24_0
noncomputable def L24_0 : St th.R → Out th := loopL d24_0 ofV24_0 r24_0
theorem h1_24_0 (p : P24_0) (s : S24_0) : bld d24_0.tm (toV24_0 p s) = some (I24_0 p s) := by kernel_rfl
theorem h2_24_0 (l : List (Vl th.R)) (p : P24_0) (s : S24_0) (h : ofV24_0 l = some (p, s)) : l = toV24_0 p s := by
  unfold ofV24_0 at h
  split at h
  · cases h; rfl
  · cases h
theorem h3_24_0 (p : P24_0) (s : S24_0) : cvE d24_0 (E24_0 (I24_0 p s)) = some ((rf24_0 p s).map (Rs.map (toV24_0 p))) := by kernel_rfl
theorem h3g_24_0 (p : P24_0) (s : S24_0) : (rf24_0 p s).get = (r24_0 p s).get := by kernel_rfl
theorem h4_24_0 (p : P24_0) (s s1 : S24_0) : outH d24_0.dirt d24_0.n0 (r24_0 p s) = repH (maskH d24_0.dirt 0 d24_0.n0 (I24_0 p s1).heap) (r24_0 p s) := by kernel_rfl
theorem ls24_0 : CodeSound th Try.prog (.loop (lpAt Try.prog 24 0)) L24_0 := loopL_sound B24_0 d24_0 I24_0 toV24_0 (by kernel_rfl) h1_24_0 h2_24_0
  (fun p s => ⟨(rf24_0 p s).map (Rs.map (toV24_0 p)), h3_24_0 p s, fun h => by
    rw [Tr.map_ok]
    unfold r24_0 at h; unfold rf24_0
    simp only [Tr.ok, n_e24_0_1, n_e24_0_8, n_e24_0_10, true_and, and_true, forall_const, implies_true] at h ⊢
    try exact h, by rw [Tr.map_get, h3g_24_0 p s]⟩) h4_24_0
theorem ok24 : LoopsOk th Try.prog (autoH [(3, L24_0)] [] [] [6, 9, 90] : Hints th) (bodyOf Try.prog 24) := autoH_ok (bs := [lpAt Try.prog 24 0, lpAt Try.prog 24 1]) (by kernel_rfl) fun b hb L hL => by
  simp only [List.mem_cons, List.not_mem_nil, or_false] at hb
  rcases hb with rfl | rfl
  · have e : lookL [(3, L24_0)] (firstReg (lpAt Try.prog 24 0)) = some L24_0 := by kernel_rfl
    rw [e] at hL; cases hL
    exact ls24_0
  · have e : lookL [(3, L24_0)] (firstReg (lpAt Try.prog 24 1)) = (none : Option (St th.R → Out th)) := by kernel_rfl
    rw [e] at hL; cases hL
noncomputable def f24_8 (v : V24) : (P24_0) := P24_0.mk v.to_ v.L v.L (↑v.L : Int) v.Q v.ob v.k v.b v.n
noncomputable def f24_9 (v : V24) : (S24_0) := S24_0.mk v.at_ (0:Nat) (0 : Int) (0:Nat) (colI (fun (j : Nat) => []) (0:Nat))
noncomputable def f24_10 (v : V24) : (S24_0) := lastS (r24_0 (f24_8 v)) (f24_9 v)
noncomputable def f24_11 (v : V24) : (Bool) := cnd (e24_0_0 (f24_8 v) (f24_10 v)) false (e24_0_5 (f24_8 v) (f24_10 v))
noncomputable def f24_12 (v : V24) : (Bool) := cnd (e24_0_0 (f24_8 v) (f24_10 v)) false true
noncomputable def f24_13 (v : V24) : (Nat) := (f24_10 v).n9
noncomputable def f24_14 (v : V24) : (Int) := (f24_10 v).x21
noncomputable def f24_15 (v : V24) : (Nat) := (f24_10 v).N1
noncomputable def f24_0 (v : V24) : (Prop) := (∀ (i : Nat), i < v.Q → (fun (j : Nat) => [SV.int IntKind.i64 (v.k j), SV.int IntKind.i64 (v.b j), SV.int IntKind.i64 (v.n j)]) i = elC (fun (j : Nat) => [SV.int IntKind.i64 (v.k j), SV.int IntKind.i64 (v.b j), SV.int IntKind.i64 (v.n j)]) (0:Nat) [Ck.int IntKind.i64, Ck.int IntKind.i64, Ck.int IntKind.i64] i) ∧ ∀ (i : Nat), i < (0:Nat) → (fun (j : Nat) => []) i = elC (fun (j : Nat) => []) (0:Nat) [Ck.int IntKind.u64] i
noncomputable def f24_1 (v : V24) : (Prop) := LT (r24_0 (f24_8 v)) (f24_9 v)
noncomputable def f24_2 (v : V24) : (Nat) := cnd (f24_11 v) (0:Nat) (cnd (f24_12 v) (0:Nat) (0:Nat))
noncomputable def f24_3 (v : V24) : (Nat) := cnd (f24_11 v) (f24_13 v) (cnd (f24_12 v) (f24_13 v) (f24_13 v))
noncomputable def f24_4 (v : V24) : (Int) := cnd (f24_11 v) (f24_14 v) (cnd (f24_12 v) (f24_14 v) (↑v.L : Int))
noncomputable def f24_5 (v : V24) : (Int) := cnd (f24_11 v) (e24_0_6 (f24_8 v) (f24_10 v)) (cnd (f24_12 v) (40 : Int) (0 : Int))
noncomputable def f24_6 (v : V24) : (Nat) := cnd (f24_11 v) (f24_15 v) (cnd (f24_12 v) (f24_15 v) (f24_15 v))
noncomputable def f24_7 (v : V24) : Nat → (Int) := fun (i : Nat) => cnd (f24_11 v) ((f24_10 v).F1_0 i) (cnd (f24_12 v) ((f24_10 v).F1_0 i) ((f24_10 v).F1_0 i))
theorem n_f24_0 (v : V24) : f24_0 v := by
  unfold f24_0
  first
    | (intros; rfl)
    | (intro i; rfl)
    | (intro i _; rfl)
    | (intro _ i; rfl)
    | (intro _ i _; rfl)
    | (refine ⟨?_, ?_⟩ <;> intro i <;> rfl)
    | (refine ⟨?_, ?_, ?_⟩ <;> intro i <;> rfl)
    | (refine ⟨?_, ?_⟩ <;> intro i _ <;> rfl)
    | (repeat' apply And.intro) <;> first | (intro i; rfl) | (intro i _; rfl) | (intro i h; exact absurd h (Nat.not_lt_zero i)) | (intro i; exact scpL_rowSet (by rfl) (by rfl)) | (intro i; exact scpL_rowEl (by kernel_rfl) _)
    | (intros; (repeat' apply And.intro) <;> intros <;> first | rfl | (exact absurd (by assumption) (Nat.not_lt_zero _)))
    | omega
    | decide
noncomputable def ff24 (v : V24) : Tr (Fin th.R) := (Tr.need (f24_0 v) (Tr.need (f24_1 v) (Tr.leaf ((SV.tup [(SV.slc (1 : Nat) (1 : Nat) (f24_2 v) (f24_3 v)), SV.int .i64 (f24_4 v), SV.int .i64 (f24_5 v)]), [(HO.ro (30 : Nat) (3 : Nat) (v.Q) (fun j => [SV.int .i64 (v.k j), SV.int .i64 (v.b j), SV.int .i64 (v.n j)]) (v.ob)), (HO.row (22 : Nat) (1 : Nat) (f24_6 v) (fun i => [SV.int .u64 (f24_7 v i)]))], List.nil))))
noncomputable def f24 (v : V24) : Tr (Fin th.R) := (Tr.need (f24_1 v) (Tr.leaf ((SV.tup [(SV.slc (1 : Nat) (1 : Nat) (f24_2 v) (f24_3 v)), SV.int .i64 (f24_4 v), SV.int .i64 (f24_5 v)]), [(HO.ro (30 : Nat) (3 : Nat) (v.Q) (fun j => [SV.int .i64 (v.k j), SV.int .i64 (v.b j), SV.int .i64 (v.n j)]) (v.ob)), (HO.row (22 : Nat) (1 : Nat) (f24_6 v) (fun i => [SV.int .u64 (f24_7 v i)]))], [])))
noncomputable def C24 : CF th.R := fnC d24 ofV24 (f24 )
theorem q24 (v : V24) : (evFn th Try.prog (auto th Try.prog nice33 [] 20) (autoH [(3, L24_0)] [] [] [6, 9, 90] : Hints th) 24) (A24 v) (H24 v) = some (ff24 v) := by kernel_rfl
theorem qg24 (v : V24) : ((ff24 v).map (setD [])).get = (f24 v).get := by kernel_rfl
theorem qd24 (v : V24) : allD 1 [] (ff24 v) = true := by kernel_rfl
theorem s24 : Sound Try.prog th 24 (C24 ) := fnC_sound (evFn_sound' (T := th) (P := Try.prog) (tbl := (auto th Try.prog nice33 [] 20)) (auto_sound (nice := nice33) (us := []) nok33 20) (H := (autoH [(3, L24_0)] [] [] [6, 9, 90] : Hints th)) (k := 24) (fnLoops ok24)) d24 A24 H24 toV24 (by kernel_rfl) (fun v => by kernel_rfl)
  (fun l v h => by
    unfold ofV24 at h
    split at h
    · cases h; rfl
    · cases h)
  [] (fun v => ⟨ff24 v, q24 v, fun h => by
    unfold f24 at h; unfold ff24
    simp only [Tr.ok, n_f24_0, true_and, and_true, forall_const, implies_true] at h ⊢
    try exact h, qg24 v, qd24 v⟩)
theorem qdd24 (v : V24) : (f24 v).get.2.2 = [] := by
  rw [← qg24, Tr.map_get]; rfl
end Go.Sx.M

namespace Go.Sx.M
open Go Go.Sx

theorem u64_range {n : Int} (h : (Lit.int .u64 n).wf = true) : 0 ≤ n ∧ n < 18446744073709551616 := by
  simp only [Lit.wf, Bool.and_eq_true, decide_eq_true_eq] at h
  have e1 : IntKind.u64.min = 0 := by decide +kernel
  have e2 : IntKind.u64.max = 18446744073709551615 := by decide +kernel
  rw [e1, e2] at h
  omega
/-- The word whose lowest bits are 1. -/
theorem ones_eq {n : Int} (h0 : 0 ≤ n) (h1 : n ≤ 63) : f123_1 n = p26 n.toNat - 1 := by
  by_cases h : n < 1
  · have : n = 0 := by omega
    subst this
    decide +kernel
  · have e1 : decide (n < 1) = false := by simpa using h
    have e2 : decide (n ≥ 64) = false := by simp; omega
    have e3 : min n.toNat IntKind.u64.bits = n.toNat := by simp only [IntKind.bits]; omega
    have e4 : (2 : Int) ^ n.toNat = p26 n.toNat := by rw [p26_eq (by omega)]; simp
    have h5 := p26_pos (n := n.toNat) (by omega)
    have h6 : p26 n.toNat < 18446744073709551616 := by unfold p26; omega
    simp only [f123_1, e1, e2, cnd, e3, Int.one_mul, e4]
    rw [wrap_u64_id (x := p26 n.toNat) (by omega) (by omega), wrap_u64_id (by omega) (by omega)]
theorem p26_le {n m : Nat} (h : n ≤ m) (hm : m ≤ 63) : p26 n ≤ p26 m := by
  rw [p26_eq (by omega), p26_eq hm]
  exact Int.ofNat_le.2 (Nat.pow_le_pow_right (by omega) h)
/-- Aligned: the rest of a division is nothing. -/
theorem aligned_eq {a n : Int} (ha : 0 ≤ a) (ha2 : a < 18446744073709551616) (h0 : 0 ≤ n) (h1 : n ≤ 63) : f125_0 a n = (a % p26 n.toNat == 0) := by
  obtain ⟨m, rfl⟩ : ∃ m : Nat, a = m := ⟨a.toNat, by omega⟩
  have hp := p26_eq (n := n.toNat) (by omega)
  have hpos : 0 < 2 ^ n.toNat := Nat.pow_pos (by omega)
  have hle : 2 ^ n.toNat ≤ 2 ^ 63 := Nat.pow_le_pow_right (by omega) (by omega)
  have e : p26 n.toNat - 1 = ((2 ^ n.toNat - 1 : Nat) : Int) := by rw [hp]; omega
  simp only [f125_0, ones_eq h0 h1, e]
  rw [u64_and_nat m _ (by omega) (by have : (2:Nat)^63 = 9223372036854775808 := by decide
                                     omega), Nat.and_two_pow_sub_one_eq_mod, hp]
  rfl
end Go.Sx.M

namespace Go.Sx.M
open Go Go.Sx

theorem right_size {k a b r g s m : Int} (h : f172_1 k b = false) : f45_1 k a b r g s m = false := by
  have h1 : f120_0 k a b r g s m = false := by
    simp only [f120_0, h, cnd_eq]
    grind
  simp only [f45_1, h1, cnd_eq]
  grind
theorem rt1 : ∀ n : Nat, n < 33 → 5 ≤ n → f45_1 1 0 n 0 0 0 0 = true := by decide +kernel
theorem rt2 : ∀ n : Nat, n < 13 → 1 ≤ n → f45_1 2 0 n 0 0 0 0 = true := by decide +kernel
theorem rt3a : f45_1 3 0 12 7 0 0 0 = true := by decide +kernel
theorem rt3b : f45_1 3 0 21 7 0 0 0 = true := by decide +kernel
theorem rt3c : f45_1 3 0 30 7 0 0 0 = true := by decide +kernel
theorem rt4 : f45_1 4 0 12 0 0 0 0 = true := by decide +kernel
theorem rt5 : f45_1 5 0 12 0 0 0 0 = true := by decide +kernel
theorem rt8 : f45_1 8 0 7 0 0 0 0 = true := by decide +kernel
theorem rt9 : f45_1 9 0 5 3 0 0 0 = true := by decide +kernel

/-- What 'known' says of a made one that is right. -/
theorem kn_right {k b c r : Int} (h0 : f191_0 k b = k) (h1 : f191_1 k b = 0) (h2 : f191_2 k b = c) (h3 : f191_3 k b = r) (h4 : f191_4 k b = true) (hr : f45_1 k 0 c r 0 0 0 = true) (hs : f172_1 k c = true) :
    f161_4 k b = 0 ∧ f162_0 (f161_0 k b) (f161_1 k b) (f161_2 k b) (f161_3 k b) (f161_1 k b) (f161_1 k b) (f161_1 k b) = f172_0 k c := by
  constructor
  · simp [f161_4, h0, h1, h2, h3, h4, hr, cnd_eq]
  · simp [f162_0, f161_0, f161_1, f161_2, f161_3, h0, h1, h2, h3, h4, hr, hs, cnd_eq]
theorem kn_wrong {k b c r : Int} (h0 : f191_0 k b = k) (h1 : f191_1 k b = 0) (h2 : f191_2 k b = c) (h3 : f191_3 k b = r) (h4 : f191_4 k b = true) (hs : f172_1 k c = false) : f161_4 k b = 11 := by
  simp [f161_4, h0, h1, h2, h3, h4, right_size hs, cnd_eq]
theorem kn_none {k b : Int} (h4 : f191_4 k b = false) : f161_4 k b = 20 := by
  simp [f161_4, h4, cnd_eq]
def Kn (k b : Int) : Prop := (f25_0 k b = -1 ∧ f161_4 k b = 20) ∨ (f25_0 k b = -2 ∧ f161_4 k b = 11) ∨
  (0 < f25_0 k b ∧ f161_4 k b = 0 ∧ f162_0 (f161_0 k b) (f161_1 k b) (f161_2 k b) (f161_3 k b) (f161_1 k b) (f161_1 k b) (f161_1 k b) = f25_0 k b)
theorem kn (k b : Int) : Kn k b := by
  by_cases k1 : k = 1
  · subst k1
    by_cases hb : 5 ≤ b ∧ b ≤ 32
    · obtain ⟨n, rfl⟩ : ∃ n : Nat, b = n := ⟨b.toNat, by omega⟩
      have h25 : f25_0 1 (n : Int) = n := by simp [f25_0, cnd_eq]; omega
      obtain ⟨q1, q2⟩ := kn_right (k := 1) (b := n) (c := n) (r := 0) rfl rfl rfl rfl rfl (rt1 n (by omega) (by omega)) (by simp [f172_1, cnd_eq]; omega)
      exact .inr (.inr ⟨by omega, q1, by rw [q2, h25]; rfl⟩)
    · exact .inr (.inl ⟨by simp [f25_0, cnd_eq]; omega, kn_wrong (k := 1) (c := b) (r := 0) rfl rfl rfl rfl rfl (by simp [f172_1, cnd_eq]; omega)⟩)
  by_cases k2 : k = 2
  · subst k2
    by_cases hb : 1 ≤ b ∧ b ≤ 12
    · obtain ⟨n, rfl⟩ : ∃ n : Nat, b = n := ⟨b.toNat, by omega⟩
      have hw : IntKind.i64.wrap ((n : Int) + 5) = n + 5 := wrap_i64 (by omega) (by omega)
      have h25 : f25_0 2 (n : Int) = n + 5 := by simp [f25_0, cnd_eq, hw]; omega
      obtain ⟨q1, q2⟩ := kn_right (k := 2) (b := n) (c := n) (r := 0) rfl rfl rfl rfl rfl (rt2 n (by omega) (by omega)) (by simp [f172_1, cnd_eq]; omega)
      exact .inr (.inr ⟨by omega, q1, by rw [q2, h25]; simp [f172_0, cnd_eq, hw]⟩)
    · exact .inr (.inl ⟨by simp [f25_0, cnd_eq]; omega, kn_wrong (k := 2) (c := b) (r := 0) rfl rfl rfl rfl rfl (by simp [f172_1, cnd_eq]; omega)⟩)
  by_cases k3 : k = 3
  · subst k3
    by_cases hb : b = 12 ∨ b = 21 ∨ b = 30
    · rcases hb with rfl | rfl | rfl
      · obtain ⟨q1, q2⟩ := kn_right (k := 3) (b := 12) (c := 12) (r := 7) rfl rfl rfl rfl rfl rt3a (by decide +kernel)
        exact .inr (.inr ⟨by decide +kernel, q1, q2.trans (by decide +kernel)⟩)
      · obtain ⟨q1, q2⟩ := kn_right (k := 3) (b := 21) (c := 21) (r := 7) rfl rfl rfl rfl rfl rt3b (by decide +kernel)
        exact .inr (.inr ⟨by decide +kernel, q1, q2.trans (by decide +kernel)⟩)
      · obtain ⟨q1, q2⟩ := kn_right (k := 3) (b := 30) (c := 30) (r := 7) rfl rfl rfl rfl rfl rt3c (by decide +kernel)
        exact .inr (.inr ⟨by decide +kernel, q1, q2.trans (by decide +kernel)⟩)
    · refine .inr (.inl ⟨?_, kn_wrong (k := 3) (c := b) (r := 7) rfl rfl rfl rfl rfl ?_⟩)
      · simp [f25_0, cnd_eq]; omega
      · simp only [f172_1, f173_0, f173_1, cnd_eq]; grind
  by_cases k4 : k = 4
  · subst k4
    by_cases hb : b = 0
    · subst hb
      obtain ⟨q1, q2⟩ := kn_right (k := 4) (b := 0) (c := 12) (r := 0) rfl rfl rfl rfl rfl rt4 (by decide +kernel)
      exact .inr (.inr ⟨by decide +kernel, q1, q2.trans (by decide +kernel)⟩)
    · exact .inr (.inl ⟨by simp [f25_0, cnd_eq, hb], kn_wrong (k := 4) (c := -1) (r := 0) (by simp [f191_0, cnd_eq]) (by simp [f191_1, cnd_eq]) (by simp [f191_2, cnd_eq, hb]) (by simp [f191_3, cnd_eq]) rfl (by decide +kernel)⟩)
  by_cases k5 : k = 5
  · subst k5
    by_cases hb : b = 0
    · subst hb
      obtain ⟨q1, q2⟩ := kn_right (k := 5) (b := 0) (c := 12) (r := 0) rfl rfl rfl rfl rfl rt5 (by decide +kernel)
      exact .inr (.inr ⟨by decide +kernel, q1, q2.trans (by decide +kernel)⟩)
    · exact .inr (.inl ⟨by simp [f25_0, cnd_eq, hb], kn_wrong (k := 5) (c := -1) (r := 0) (by simp [f191_0, cnd_eq]) (by simp [f191_1, cnd_eq]) (by simp [f191_2, cnd_eq, hb]) (by simp [f191_3, cnd_eq]) rfl (by decide +kernel)⟩)
  by_cases k8 : k = 8
  · subst k8
    by_cases hb : b = 0
    · subst hb
      obtain ⟨q1, q2⟩ := kn_right (k := 8) (b := 0) (c := 7) (r := 0) rfl rfl rfl rfl rfl rt8 (by decide +kernel)
      exact .inr (.inr ⟨by decide +kernel, q1, q2.trans (by decide +kernel)⟩)
    · exact .inr (.inl ⟨by simp [f25_0, cnd_eq, hb], kn_wrong (k := 8) (c := -1) (r := 0) (by simp [f191_0, cnd_eq]) (by simp [f191_1, cnd_eq]) (by simp [f191_2, cnd_eq, hb]) (by simp [f191_3, cnd_eq]) rfl (by decide +kernel)⟩)
  by_cases k9 : k = 9
  · subst k9
    by_cases hb : b = 0
    · subst hb
      obtain ⟨q1, q2⟩ := kn_right (k := 9) (b := 0) (c := 5) (r := 3) rfl rfl rfl rfl rfl rt9 (by decide +kernel)
      exact .inr (.inr ⟨by decide +kernel, q1, q2.trans (by decide +kernel)⟩)
    · exact .inr (.inl ⟨by simp [f25_0, cnd_eq, hb], kn_wrong (k := 9) (c := -1) (r := 3) (by simp [f191_0, cnd_eq]) (by simp [f191_1, cnd_eq]) (by simp [f191_2, cnd_eq, hb]) (by simp [f191_3, cnd_eq]) rfl (by decide +kernel)⟩)
  refine .inl ⟨?_, kn_none ?_⟩
  · simp [f25_0, cnd_eq, k1, k2, k3, k4, k5, k8, k9]
  · simp [f191_4, cnd_eq, k1, k2, k3, k4, k5, k8, k9]

end Go.Sx.M

namespace Go.Sx.M
open Go Go.Sx

/-- What lies within 2^32 bytes, and ends there. -/
theorem lies_at {k a c r g s m : Int} (hs : f172_1 k c = true) (hn0 : 0 ≤ f172_0 k c) (hn1 : f172_0 k c ≤ 32) (ha : 0 ≤ a) (ha2 : a < 18446744073709551616) :
    f120_0 k a c r g s m = (a % p26 (f172_0 k c).toNat == 0 && decide (a < 4294967296)) := by
  have hp := p26_eq (n := (f172_0 k c).toNat) (by omega)
  have hle := p26_le (n := (f172_0 k c).toNat) (m := 32) (by omega) (by omega)
  have h32 : p26 32 = 4294967296 := by decide +kernel
  have hpos := p26_pos (n := (f172_0 k c).toNat) (by omega)
  have h1 : (!f172_1 k c) = false := by rw [hs]; rfl
  have h2 : decide (f172_0 k c < 0) = false := by simp; omega
  have hdvd : p26 (f172_0 k c).toNat ∣ 4294967296 := by
    rw [hp]
    have : (4294967296 : Int) = ((2 ^ 32 : Nat) : Int) := by decide
    rw [this, Int.natCast_dvd_natCast]
    exact Nat.pow_dvd_pow 2 (by omega)
  simp only [f120_0, h1, h2, cnd_eq, aligned_eq ha ha2 hn0 (by omega), ones_eq hn0 (by omega)]
  generalize p26 (f172_0 k c).toNat = q at *
  by_cases hal : a % q = 0
  · by_cases hlt : a < 4294967296
    · have hd : q ∣ 4294967296 - a := Int.dvd_sub hdvd (Int.dvd_of_emod_eq_zero hal)
      have hle2 : q ≤ 4294967296 - a := Int.le_of_dvd (by omega) hd
      rw [wrap_u64_id (x := q - 1 + 1) (by omega) (by omega), wrap_u64_id (x := 4294967296 - a) (by omega) (by omega)]
      simp [hal, hlt]
      omega
    · simp [hal, hlt]
  · simp [hal]
/-- Kinds that may be made: the bits and the rights that they get. -/
def Mk (k b c r n : Int) : Prop := f191_0 k b = k ∧ f191_1 k b = 0 ∧ f191_2 k b = c ∧ f191_3 k b = r ∧ f191_4 k b = true ∧ f45_1 k 0 c r 0 0 0 = true ∧ f172_1 k c = true ∧ f172_0 k c = n ∧ 5 ≤ n ∧ n ≤ 32 ∧
  f25_0 k b = n ∧ c = (if k = 2 then b else n) ∧ r = (if k = 9 then 3 else if k = 3 then 7 else 0)
theorem mk (k b : Int) : (f25_0 k b = -1 ∧ f161_4 k b = 20) ∨ (f25_0 k b = -2 ∧ f161_4 k b = 11) ∨ ∃ c r n, Mk k b c r n := by
  by_cases k1 : k = 1
  · subst k1
    by_cases hb : 5 ≤ b ∧ b ≤ 32
    · obtain ⟨n, rfl⟩ : ∃ n : Nat, b = n := ⟨b.toNat, by omega⟩
      have h25 : f25_0 1 (n : Int) = n := by simp [f25_0, cnd_eq]; omega
      exact .inr (.inr ⟨n, 0, n, rfl, rfl, rfl, rfl, rfl, rt1 n (by omega) (by omega), by simp [f172_1, cnd_eq]; omega, rfl, by omega, by omega, h25, rfl, rfl⟩)
    · rcases kn 1 b with h | h | ⟨h, _⟩
      · exact .inl h
      · exact .inr (.inl h)
      · exfalso; revert h; simp [f25_0, cnd_eq]; omega
  by_cases k2 : k = 2
  · subst k2
    by_cases hb : 1 ≤ b ∧ b ≤ 12
    · obtain ⟨n, rfl⟩ : ∃ n : Nat, b = n := ⟨b.toNat, by omega⟩
      have hw : IntKind.i64.wrap ((n : Int) + 5) = n + 5 := wrap_i64 (by omega) (by omega)
      have h25 : f25_0 2 (n : Int) = n + 5 := by simp [f25_0, cnd_eq, hw]; omega
      exact .inr (.inr ⟨n, 0, n + 5, rfl, rfl, rfl, rfl, rfl, rt2 n (by omega) (by omega), by simp [f172_1, cnd_eq]; omega, by simp [f172_0, cnd_eq, hw], by omega, by omega, h25, rfl, rfl⟩)
    · rcases kn 2 b with h | h | ⟨h, _⟩
      · exact .inl h
      · exact .inr (.inl h)
      · exfalso; revert h; simp [f25_0, cnd_eq]; omega
  by_cases k3 : k = 3
  · subst k3
    by_cases hb : b = 12 ∨ b = 21 ∨ b = 30
    · rcases hb with rfl | rfl | rfl
      · exact .inr (.inr ⟨12, 7, 12, rfl, rfl, rfl, rfl, rfl, rt3a, by decide +kernel, by decide +kernel, by omega, by omega, by decide +kernel, rfl, rfl⟩)
      · exact .inr (.inr ⟨21, 7, 21, rfl, rfl, rfl, rfl, rfl, rt3b, by decide +kernel, by decide +kernel, by omega, by omega, by decide +kernel, rfl, rfl⟩)
      · exact .inr (.inr ⟨30, 7, 30, rfl, rfl, rfl, rfl, rfl, rt3c, by decide +kernel, by decide +kernel, by omega, by omega, by decide +kernel, rfl, rfl⟩)
    · rcases kn 3 b with h | h | ⟨h, _⟩
      · exact .inl h
      · exact .inr (.inl h)
      · exfalso; revert h; simp [f25_0, cnd_eq]; omega
  have small : ∀ c r n, k ≠ 2 → k = 4 ∨ k = 5 ∨ k = 8 ∨ k = 9 → Mk k 0 c r n → (f25_0 k b = -1 ∧ f161_4 k b = 20) ∨ (f25_0 k b = -2 ∧ f161_4 k b = 11) ∨ ∃ c r n, Mk k b c r n := by
    intro c r n h2 hk hm
    by_cases hb : b = 0
    · subst hb; exact .inr (.inr ⟨c, r, n, hm⟩)
    · rcases kn k b with h | h | ⟨h, _⟩
      · exact .inl h
      · exact .inr (.inl h)
      · exfalso
        revert h
        rcases hk with rfl | rfl | rfl | rfl <;> simp [f25_0, cnd_eq, hb]
  by_cases k4 : k = 4
  · subst k4; exact small 12 0 12 (by omega) (by omega) ⟨rfl, rfl, rfl, rfl, rfl, rt4, by decide +kernel, by decide +kernel, by omega, by omega, by decide +kernel, rfl, rfl⟩
  by_cases k5 : k = 5
  · subst k5; exact small 12 0 12 (by omega) (by omega) ⟨rfl, rfl, rfl, rfl, rfl, rt5, by decide +kernel, by decide +kernel, by omega, by omega, by decide +kernel, rfl, rfl⟩
  by_cases k8 : k = 8
  · subst k8; exact small 7 0 7 (by omega) (by omega) ⟨rfl, rfl, rfl, rfl, rfl, rt8, by decide +kernel, by decide +kernel, by omega, by omega, by decide +kernel, rfl, rfl⟩
  by_cases k9 : k = 9
  · subst k9; exact small 5 3 5 (by omega) (by omega) ⟨rfl, rfl, rfl, rfl, rfl, rt9, by decide +kernel, by decide +kernel, by omega, by omega, by decide +kernel, rfl, rfl⟩
  refine .inl ⟨?_, kn_none ?_⟩
  · simp [f25_0, cnd_eq, k1, k2, k3, k4, k5, k8, k9]
  · simp [f191_4, cnd_eq, k1, k2, k3, k4, k5, k8, k9]

end Go.Sx.M

namespace Go.Sx.M
open Go Go.Sx Go.Proofs Go.RowKit Go.Maps
/-- Why a word may not be asked for. -/
def errI (size a : Int) : Int := if a % 8 = 0 then if size ≤ a then 12 else 0 else 13
theorem errI_ok {size a : Int} (h : a % 8 = 0) (h2 : a < size) : errI size a = 0 := by
  unfold errI; rw [if_pos h, if_neg (by omega)]
end Go.Sx.M

namespace Go.Sx.M
open Go Go.Sx Go.Proofs Go.RowKit Go.Maps
end Go.Sx.M

namespace Go.Sx.M
open Go Go.Sx Go.Proofs Go.RowKit Go.Maps
/-- May a memory have a size? -/
def sizeOk (a : Int) : Prop := 65536 ≤ a ∧ a ≤ 4294967296 ∧ a % 4096 = 0
instance (a : Int) : Decidable (sizeOk a) := by unfold sizeOk; infer_instance
end Go.Sx.M

namespace Go.Sx.M
open Go Go.Sx Go.Proofs Go.RowKit Go.Maps
set_option maxRecDepth 10000
def szM (M : Mem) : Int := M.size
def rdM (M : Mem) (a : Int) : Int := M.W a
def wrM (M : Mem) (a x : Int) : Mem := ⟨M.size, cnd (decide (errI M.size a = 0)) (upd M.W a x) M.W⟩
def newM (a : Int) : Mem := ⟨a, fun _ => 0⟩
/-! ### Read -/
/-! ### Size -/
/-! ### Write -/
/-! ### New -/
end Go.Sx.M

namespace Go.Sx.M
open Go Go.Sx Go.Proofs Go.RowKit
set_option maxRecDepth 100000
structure V99 where
  at_ : Int
  M : th.R
noncomputable def f99_0 (v : V99) : (Int) := cnd (!f125_0 v.at_ (5 : Int)) (13 : Int) (cnd (decide (v.at_ ≥ szM v.M)) (12 : Int) (0 : Int))
end Go.Sx.M

