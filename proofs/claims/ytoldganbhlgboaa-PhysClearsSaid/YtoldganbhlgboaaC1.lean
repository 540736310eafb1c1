/- Contracts of the functions of this seat, each by the executor and the kernel; part 1. Their conditions stand in each. -/
import Derived.Test.YtoldganbhlgboaaTx3
import Derived.Test.YtoldganbhlgboaaProg
import Derived.Test.YtoldganbhlgboaaB1
import Derived.Maps.RangeWalk
import Derived.WalkKit
import Derived.Laws.BitsAllLaws
set_option linter.unusedVariables false
set_option linter.unusedSimpArgs false
namespace Go.Sx.M
open Go Go.Sx Go.Proofs Go.RowKit
noncomputable def th : Theory := memTh Try.prog 187 193 22
noncomputable def dR : th.R := (default : Mem)
end Go.Sx.M

namespace Go.Sx.M
open Go Go.Sx Go.Proofs Go.RowKit
def us173 : List Un := [⟨173, [(2, 6)], [6]⟩]
def f173_0 (x : Int) : Int := cnd ((39 : Int) == x) (0 : Int) (cnd ((30 : Int) == x) (1 : Int) (cnd ((21 : Int) == x) (2 : Int) (cnd ((12 : Int) == x) (3 : Int) (0 : Int))))
def f173_1 (x : Int) : Bool := cnd ((39 : Int) == x) true (cnd ((30 : Int) == x) true (cnd ((21 : Int) == x) true (cnd ((12 : Int) == x) true false)))
def f173 : List SV → Option (Tr SV)
  | [.int .i64 x] => some (Tr.leaf (SV.tup [SV.int .i64 (f173_0 x), SV.bool (f173_1 x)]))
  | _ => none
theorem s173 : Sound Try.prog th 173 (pureC f173) := pure_auto (us := us173) (nice := ([] : List (Nat × CF th.R))) trivial 20 fun args t h => by
  unfold f173 at h
  split at h
  · cases h; kernel_rfl
  · cases h
noncomputable def nice173 : List (Nat × CF th.R) := (173, pureC f173) :: ([] : List (Nat × CF th.R))
theorem nok173 : NiceOk Try.prog th nice173 := ⟨s173, trivial⟩
end Go.Sx.M

namespace Go.Sx.M
open Go Go.Sx Go.Proofs Go.RowKit
def us172 : List Un := [⟨173, [(2, 6)], [6]⟩]
def f172_0 (k : Int) (b : Int) : Int := cnd (cnd (k == (0 : Int)) (k == (0 : Int)) (k == (6 : Int))) (-1 : Int) (cnd (k == (1 : Int)) b (cnd (cnd (k == (2 : Int)) (k == (2 : Int)) (k == (10 : Int))) (IntKind.i64.wrap (b + (5 : Int))) (cnd (k == (3 : Int)) b (cnd (cnd (k == (4 : Int)) (k == (4 : Int)) (cnd (k == (5 : Int)) (k == (5 : Int)) (k == (7 : Int)))) b (cnd (k == (8 : Int)) b (cnd (k == (9 : Int)) b (-1 : Int)))))))
def f172_1 (k : Int) (b : Int) : Bool := cnd (cnd (k == (0 : Int)) (k == (0 : Int)) (k == (6 : Int))) (b == (0 : Int)) (cnd (k == (1 : Int)) (cnd (decide (b ≥ (5 : Int))) (decide (b ≤ (32 : Int))) false) (cnd (cnd (k == (2 : Int)) (k == (2 : Int)) (k == (10 : Int))) (cnd (decide (b ≥ (1 : Int))) (decide (b ≤ (12 : Int))) false) (cnd (k == (3 : Int)) (cnd (f173_1 b) (decide (f173_0 b > (0 : Int))) false) (cnd (cnd (k == (4 : Int)) (k == (4 : Int)) (cnd (k == (5 : Int)) (k == (5 : Int)) (k == (7 : Int)))) (b == (12 : Int)) (cnd (k == (8 : Int)) (b == (7 : Int)) (cnd (k == (9 : Int)) (b == (5 : Int)) false))))))
def f172 : List SV → Option (Tr SV)
  | [.int .i64 k, .int .i64 b] => some (Tr.leaf (SV.tup [SV.int .i64 (f172_0 k b), SV.bool (f172_1 k b)]))
  | _ => none
theorem s172 : Sound Try.prog th 172 (pureC f172) := pure_auto (us := us172) (nice := nice173) nok173 20 fun args t h => by
  unfold f172 at h
  split at h
  · cases h; kernel_rfl
  · cases h
noncomputable def nice172 : List (Nat × CF th.R) := (172, pureC f172) :: nice173
theorem nok172 : NiceOk Try.prog th nice172 := ⟨s172, nok173⟩
end Go.Sx.M

namespace Go.Sx.M
open Go Go.Sx Go.Proofs Go.RowKit
def us123 : List Un := [⟨173, [(2, 6)], [6]⟩]
def f123_0 (n : Int) : Prop := decide (n < (1 : Int)) = false → decide (n ≥ (64 : Int)) = false → (0 : Int) ≤ n
def f123_1 (n : Int) : Int := cnd (decide (n < (1 : Int))) (0 : Int) (cnd (decide (n ≥ (64 : Int))) (18446744073709551615 : Int) (IntKind.u64.wrap (IntKind.u64.wrap ((1 : Int) * (2 : Int) ^ Min.min n.toNat IntKind.u64.bits) - (1 : Int))))
theorem n123_0 (n : Int) : f123_0 n := by
  simp only [f123_0, cnd_eq]
  grind (splits := 40)
def f123 : List SV → Option (Tr SV)
  | [.int .i64 n] => some (Tr.leaf (SV.int .u64 (f123_1 n)))
  | _ => none
theorem s123 : Sound Try.prog th 123 (pureC f123) := pure_auto2 (us := us123) (nice := nice172) nok172 20 fun args t h => by
  unfold f123 at h
  split at h
  · rename_i n
    cases h
    refine ⟨(Tr.need (f123_0 n) (Tr.leaf (SV.int .u64 (f123_1 n)))), by kernel_rfl, fun ok => ?_, rfl⟩
    first
    | (simp only [Tr.ok, n123_0, true_and, and_true, forall_const, implies_true]; done)
    | (simp only [Tr.ok, n123_0, true_and, and_true, forall_const, implies_true]; done)
    | (simpa only [Tr.ok, n123_0, true_and, and_true, forall_const, implies_true] using ok; done)
    | (simp only [Tr.ok, n123_0, true_and, and_true, forall_const, implies_true] at ok ⊢; grind)
  · cases h
noncomputable def nice123 : List (Nat × CF th.R) := (123, pureC f123) :: nice172
theorem nok123 : NiceOk Try.prog th nice123 := ⟨s123, nok172⟩
end Go.Sx.M

namespace Go.Sx.M
open Go Go.Sx Go.Proofs Go.RowKit
def us116 : List Un := [⟨173, [(2, 6)], [6]⟩]
def f116_0 (r : Int) : Bool := cnd (decide (r ≥ (0 : Int))) (decide (r ≤ (7 : Int))) false
def f116 : List SV → Option (Tr SV)
  | [.int .i64 r] => some (Tr.leaf (SV.bool (f116_0 r)))
  | _ => none
theorem s116 : Sound Try.prog th 116 (pureC f116) := pure_auto (us := us116) (nice := nice123) nok123 20 fun args t h => by
  unfold f116 at h
  split at h
  · cases h; kernel_rfl
  · cases h
noncomputable def nice116 : List (Nat × CF th.R) := (116, pureC f116) :: nice123
theorem nok116 : NiceOk Try.prog th nice116 := ⟨s116, nok123⟩
end Go.Sx.M

namespace Go.Sx.M
open Go Go.Sx Go.Proofs Go.RowKit
def us119 : List Un := [⟨173, [(2, 6)], [6]⟩]
def f119_0 (a : Int) (b : Int) : Bool := cnd (cnd (f116_0 a) (f116_0 b) false) (Go.bits Go.BinOp.andNot IntKind.i64 a b == (0 : Int)) false
def f119 : List SV → Option (Tr SV)
  | [.int .i64 a, .int .i64 b] => some (Tr.leaf (SV.bool (f119_0 a b)))
  | _ => none
theorem s119 : Sound Try.prog th 119 (pureC f119) := pure_auto (us := us119) (nice := nice116) nok116 20 fun args t h => by
  unfold f119 at h
  split at h
  · cases h; kernel_rfl
  · cases h
noncomputable def nice119 : List (Nat × CF th.R) := (119, pureC f119) :: nice116
theorem nok119 : NiceOk Try.prog th nice119 := ⟨s119, nok116⟩
end Go.Sx.M

namespace Go.Sx.M
open Go Go.Sx Go.Proofs Go.RowKit
def us125 : List Un := [⟨173, [(2, 6)], [6]⟩]
def f125_0 (w : Int) (n : Int) : Bool := Go.bits Go.BinOp.and IntKind.u64 w (f123_1 n) == (0 : Int)
def f125 : List SV → Option (Tr SV)
  | [.int .u64 w, .int .i64 n] => some (Tr.leaf (SV.bool (f125_0 w n)))
  | _ => none
theorem s125 : Sound Try.prog th 125 (pureC f125) := pure_auto (us := us125) (nice := nice119) nok119 20 fun args t h => by
  unfold f125 at h
  split at h
  · cases h; kernel_rfl
  · cases h
noncomputable def nice125 : List (Nat × CF th.R) := (125, pureC f125) :: nice119
theorem nok125 : NiceOk Try.prog th nice125 := ⟨s125, nok119⟩
end Go.Sx.M

namespace Go.Sx.M
open Go Go.Sx Go.Proofs Go.RowKit
def us194 : List Un := [⟨173, [(2, 6)], [6]⟩]
def f194_0 (l : Int) : Int := cnd (cnd (decide (l < (0 : Int))) true (decide (l ≥ (4 : Int)))) (0 : Int) (IntKind.i64.wrap ((12 : Int) + IntKind.i64.wrap ((9 : Int) * IntKind.i64.wrap ((3 : Int) - l))))
def f194 : List SV → Option (Tr SV)
  | [.int .i64 l] => some (Tr.leaf (SV.int .i64 (f194_0 l)))
  | _ => none
theorem s194 : Sound Try.prog th 194 (pureC f194) := pure_auto (us := us194) (nice := nice125) nok125 20 fun args t h => by
  unfold f194 at h
  split at h
  · cases h; kernel_rfl
  · cases h
noncomputable def nice194 : List (Nat × CF th.R) := (194, pureC f194) :: nice125
theorem nok194 : NiceOk Try.prog th nice194 := ⟨s194, nok125⟩
end Go.Sx.M

namespace Go.Sx.M
open Go Go.Sx Go.Proofs Go.RowKit
def us120 : List Un := [⟨173, [(2, 6)], [6]⟩]
def f120_0 (k : Int) (a : Int) (b : Int) (r : Int) (g : Int) (s : Int) (m : Int) : Bool := cnd (cnd (!f172_1 k b) true (decide (f172_0 k b < (0 : Int)))) (cnd (f172_1 k b) (a == (0 : Int)) false) (cnd (cnd (f125_0 a (f172_0 k b)) (decide (a < (4294967296 : Int))) false) (decide (IntKind.u64.wrap (f123_1 (f172_0 k b) + (1 : Int)) ≤ IntKind.u64.wrap ((4294967296 : Int) - a))) false)
def f120 : List SV → Option (Tr SV)
  | [.agg [.int .i64 k, .int .u64 a, .int .i64 b, .int .i64 r, .int .i64 g, .int .i64 s, .int .u64 m]] => some (Tr.leaf (SV.bool (f120_0 k a b r g s m)))
  | _ => none
theorem s120 : Sound Try.prog th 120 (pureC f120) := pure_auto (us := us120) (nice := nice194) nok194 20 fun args t h => by
  unfold f120 at h
  split at h
  · cases h; kernel_rfl
  · cases h
noncomputable def nice120 : List (Nat × CF th.R) := (120, pureC f120) :: nice194
theorem nok120 : NiceOk Try.prog th nice120 := ⟨s120, nok194⟩
end Go.Sx.M

namespace Go.Sx.M
open Go Go.Sx Go.Proofs Go.RowKit
def us195 : List Un := [⟨173, [(2, 6)], [6]⟩]
def f195_0 (w : Int) : Prop := (0 : Int) ≤ (48 : Int)
def f195_1 (w : Int) : Bool := w.fdiv (281474976710656 : Int) == (0 : Int)
theorem n195_0 (w : Int) : f195_0 w := by
  simp only [f195_0, cnd_eq]
  grind (splits := 40)
def f195 : List SV → Option (Tr SV)
  | [.int .u64 w] => some (Tr.leaf (SV.bool (f195_1 w)))
  | _ => none
theorem s195 : Sound Try.prog th 195 (pureC f195) := pure_auto2 (us := us195) (nice := nice120) nok120 20 fun args t h => by
  unfold f195 at h
  split at h
  · rename_i w
    cases h
    refine ⟨(Tr.need (f195_0 w) (Tr.leaf (SV.bool (f195_1 w)))), by kernel_rfl, fun ok => ?_, rfl⟩
    first
    | (simp only [Tr.ok, n195_0, true_and, and_true, forall_const, implies_true]; done)
    | (simp only [Tr.ok, n195_0, true_and, and_true, forall_const, implies_true]; done)
    | (simpa only [Tr.ok, n195_0, true_and, and_true, forall_const, implies_true] using ok; done)
    | (simp only [Tr.ok, n195_0, true_and, and_true, forall_const, implies_true] at ok ⊢; grind)
  · cases h
noncomputable def nice195 : List (Nat × CF th.R) := (195, pureC f195) :: nice120
theorem nok195 : NiceOk Try.prog th nice195 := ⟨s195, nok120⟩
end Go.Sx.M

namespace Go.Sx.M
open Go Go.Sx Go.Proofs Go.RowKit
def us210 : List Un := [⟨173, [(2, 6)], [6]⟩]
def f210_0 (n : Int) : Bool := cnd (decide (n ≥ (0 : Int))) (decide (n < (4 : Int))) false
def f210 : List SV → Option (Tr SV)
  | [.int .i64 n] => some (Tr.leaf (SV.bool (f210_0 n)))
  | _ => none
theorem s210 : Sound Try.prog th 210 (pureC f210) := pure_auto (us := us210) (nice := nice195) nok195 20 fun args t h => by
  unfold f210 at h
  split at h
  · cases h; kernel_rfl
  · cases h
noncomputable def nice210 : List (Nat × CF th.R) := (210, pureC f210) :: nice195
theorem nok210 : NiceOk Try.prog th nice210 := ⟨s210, nok195⟩
end Go.Sx.M

namespace Go.Sx.M
open Go Go.Sx Go.Proofs Go.RowKit
def us211 : List Un := [⟨173, [(2, 6)], [6]⟩]
def f211_0 (w : Int) (n : Int) : Int := Go.bits Go.BinOp.andNot IntKind.u64 w (f123_1 n)
def f211 : List SV → Option (Tr SV)
  | [.int .u64 w, .int .i64 n] => some (Tr.leaf (SV.int .u64 (f211_0 w n)))
  | _ => none
theorem s211 : Sound Try.prog th 211 (pureC f211) := pure_auto (us := us211) (nice := nice210) nok210 20 fun args t h => by
  unfold f211 at h
  split at h
  · cases h; kernel_rfl
  · cases h
noncomputable def nice211 : List (Nat × CF th.R) := (211, pureC f211) :: nice210
theorem nok211 : NiceOk Try.prog th nice211 := ⟨s211, nok210⟩
end Go.Sx.M

namespace Go.Sx.M
open Go Go.Sx Go.Proofs Go.RowKit
def us196 : List Un := [⟨173, [(2, 6)], [6]⟩]
def f196_0 (w : Int) (n : Int) : Int := cnd (!f210_0 n) (0 : Int) (f211_0 (Go.bits Go.BinOp.and IntKind.u64 w (281474976710655 : Int)) (f194_0 n))
def f196 : List SV → Option (Tr SV)
  | [.int .u64 w, .int .i64 n] => some (Tr.leaf (SV.int .u64 (f196_0 w n)))
  | _ => none
theorem s196 : Sound Try.prog th 196 (pureC f196) := pure_auto (us := us196) (nice := nice211) nok211 20 fun args t h => by
  unfold f196 at h
  split at h
  · cases h; kernel_rfl
  · cases h
noncomputable def nice196 : List (Nat × CF th.R) := (196, pureC f196) :: nice211
theorem nok196 : NiceOk Try.prog th nice196 := ⟨s196, nok211⟩
end Go.Sx.M

namespace Go.Sx.M
open Go Go.Sx Go.Proofs Go.RowKit
def us174 : List Un := [⟨173, [(2, 6)], [6]⟩]
def f174_0 (k : Int) (a : Int) (b : Int) (r : Int) (g : Int) (s : Int) (m : Int) (l : Int) : Bool := cnd (s == (0 : Int)) (m == (0 : Int)) (cnd (f195_1 m) (f196_0 m l == m) false)
def f174 : List SV → Option (Tr SV)
  | [.agg [.int .i64 k, .int .u64 a, .int .i64 b, .int .i64 r, .int .i64 g, .int .i64 s, .int .u64 m], .int .i64 l] => some (Tr.leaf (SV.bool (f174_0 k a b r g s m l)))
  | _ => none
theorem s174 : Sound Try.prog th 174 (pureC f174) := pure_auto (us := us174) (nice := nice196) nok196 20 fun args t h => by
  unfold f174 at h
  split at h
  · cases h; kernel_rfl
  · cases h
noncomputable def nice174 : List (Nat × CF th.R) := (174, pureC f174) :: nice196
theorem nok174 : NiceOk Try.prog th nice174 := ⟨s174, nok196⟩
end Go.Sx.M

namespace Go.Sx.M
open Go Go.Sx Go.Proofs Go.RowKit
def us121 : List Un := [⟨173, [(2, 6)], [6]⟩]
def f121_0 (k : Int) (a : Int) (b : Int) (r : Int) (g : Int) (s : Int) (m : Int) : Prop := (k == (1 : Int)) = false → (k == (2 : Int)) = false → (k == (3 : Int)) = false → (k == (4 : Int)) = false → (k == (7 : Int)) = false → (k == (9 : Int)) = false → (k == (10 : Int)) = true → true = true → (0 : Int) ≤ b
def f121_1 (k : Int) (a : Int) (b : Int) (r : Int) (g : Int) (s : Int) (m : Int) : Bool := cnd (k == (1 : Int)) (cnd (decide (m ≤ IntKind.u64.wrap (f123_1 b + (1 : Int)))) (f125_0 m (5 : Int)) false) (cnd (k == (2 : Int)) (cnd (decide (g ≤ if (63 : Int) < IntKind.i64.wrap ((64 : Int) - b) then (63 : Int) else IntKind.i64.wrap ((64 : Int) - b))) (Go.bits Go.BinOp.andNot IntKind.u64 m (f123_1 g) == (0 : Int)) false) (cnd (k == (3 : Int)) (f174_0 k a b r g s m (f173_0 b)) (cnd (k == (4 : Int)) (cnd (cnd (f174_0 k a b r g s m (IntKind.i64.wrap (g - (1 : Int)))) (decide (g ≥ (1 : Int)) == (s != (0 : Int))) false) (decide (g < (4 : Int))) false) (cnd (k == (7 : Int)) (decide (m < (8 : Int))) (cnd (k == (9 : Int)) true (cnd (k == (10 : Int)) (decide (m ≤ IntKind.u64.wrap ((1 : Int) * (2 : Int) ^ Min.min b.toNat IntKind.u64.bits))) (m == (0 : Int))))))))
def f121 : List SV → Option (Tr SV)
  | [.agg [.int .i64 k, .int .u64 a, .int .i64 b, .int .i64 r, .int .i64 g, .int .i64 s, .int .u64 m]] => some (Tr.need (f121_0 k a b r g s m) (Tr.leaf (SV.bool (f121_1 k a b r g s m))))
  | _ => none
theorem s121 : Sound Try.prog th 121 (pureC f121) := pure_auto (us := us121) (nice := nice174) nok174 20 fun args t h => by
  unfold f121 at h
  split at h
  · cases h; kernel_rfl
  · cases h
noncomputable def nice121 : List (Nat × CF th.R) := (121, pureC f121) :: nice174
theorem nok121 : NiceOk Try.prog th nice121 := ⟨s121, nok174⟩
end Go.Sx.M

namespace Go.Sx.M
open Go Go.Sx Go.Proofs Go.RowKit
def us45 : List Un := [⟨173, [(2, 6)], [6]⟩]
def f45_0 (k : Int) (a : Int) (b : Int) (r : Int) (g : Int) (s : Int) (m : Int) : Prop := cnd (cnd (cnd (cnd (cnd (cnd (cnd (f120_0 k a b r g s m) (decide (g ≥ (0 : Int))) false) (cnd (cnd (k == (2 : Int)) true (k == (4 : Int))) true (g == (0 : Int))) false) (decide (s ≥ (0 : Int))) false) (decide (s < (4096 : Int))) false) (cnd (cnd (cnd (k == (3 : Int)) true (k == (4 : Int))) true (k == (5 : Int))) true (s == (0 : Int))) false) (cnd (cnd (cnd (k == (3 : Int)) (f116_0 r) false) true (cnd (k == (9 : Int)) (f119_0 r (3 : Int)) false)) true (r == (0 : Int))) false) true false = true → f121_0 k a b r g s m
def f45_1 (k : Int) (a : Int) (b : Int) (r : Int) (g : Int) (s : Int) (m : Int) : Bool := cnd (cnd (cnd (cnd (cnd (cnd (cnd (f120_0 k a b r g s m) (decide (g ≥ (0 : Int))) false) (cnd (cnd (k == (2 : Int)) true (k == (4 : Int))) true (g == (0 : Int))) false) (decide (s ≥ (0 : Int))) false) (decide (s < (4096 : Int))) false) (cnd (cnd (cnd (k == (3 : Int)) true (k == (4 : Int))) true (k == (5 : Int))) true (s == (0 : Int))) false) (cnd (cnd (cnd (k == (3 : Int)) (f116_0 r) false) true (cnd (k == (9 : Int)) (f119_0 r (3 : Int)) false)) true (r == (0 : Int))) false) (f121_1 k a b r g s m) false
theorem n45_0 (k : Int) (a : Int) (b : Int) (r : Int) (g : Int) (s : Int) (m : Int) : f45_0 k a b r g s m := by
  simp only [f45_0, f121_0, f120_0, f172_0, f172_1, cnd_eq]
  grind (splits := 40)
def f45 : List SV → Option (Tr SV)
  | [.agg [.int .i64 k, .int .u64 a, .int .i64 b, .int .i64 r, .int .i64 g, .int .i64 s, .int .u64 m]] => some (Tr.leaf (SV.bool (f45_1 k a b r g s m)))
  | _ => none
theorem s45 : Sound Try.prog th 45 (pureC f45) := pure_auto2 (us := us45) (nice := nice121) nok121 20 fun args t h => by
  unfold f45 at h
  split at h
  · rename_i k a b r g s m
    cases h
    refine ⟨(Tr.need (f45_0 k a b r g s m) (Tr.leaf (SV.bool (f45_1 k a b r g s m)))), by kernel_rfl, fun ok => ?_, rfl⟩
    first
    | (simp only [Tr.ok, n45_0, true_and, and_true, forall_const, implies_true]; done)
    | (simp only [Tr.ok, n45_0, true_and, and_true, forall_const, implies_true]; done)
    | (simpa only [Tr.ok, n45_0, true_and, and_true, forall_const, implies_true] using ok; done)
    | (simp only [Tr.ok, n45_0, true_and, and_true, forall_const, implies_true] at ok ⊢; grind)
  · cases h
noncomputable def nice45 : List (Nat × CF th.R) := (45, pureC f45) :: nice121
theorem nok45 : NiceOk Try.prog th nice45 := ⟨s45, nok121⟩
end Go.Sx.M

namespace Go.Sx.M
open Go Go.Sx Go.Proofs Go.RowKit
def us162 : List Un := [⟨173, [(2, 6)], [6]⟩]
def f162_0 (k : Int) (a : Int) (b : Int) (r : Int) (g : Int) (s : Int) (m : Int) : Int := cnd (cnd (!f172_1 k b) true !f45_1 k a b r g s m) (-1 : Int) (f172_0 k b)
def f162 : List SV → Option (Tr SV)
  | [.agg [.int .i64 k, .int .u64 a, .int .i64 b, .int .i64 r, .int .i64 g, .int .i64 s, .int .u64 m]] => some (Tr.leaf (SV.int .i64 (f162_0 k a b r g s m)))
  | _ => none
theorem s162 : Sound Try.prog th 162 (pureC f162) := pure_auto (us := us162) (nice := nice45) nok45 20 fun args t h => by
  unfold f162 at h
  split at h
  · cases h; kernel_rfl
  · cases h
noncomputable def nice162 : List (Nat × CF th.R) := (162, pureC f162) :: nice45
theorem nok162 : NiceOk Try.prog th nice162 := ⟨s162, nok45⟩
end Go.Sx.M

namespace Go.Sx.M
open Go Go.Sx Go.Proofs Go.RowKit
def us126 : List Un := [⟨173, [(2, 6)], [6]⟩]
def f126_0 (k : Int) (a : Int) (b : Int) (r : Int) (g : Int) (s : Int) (m : Int) : Int := cnd (decide (f162_0 k a b r g s m < (0 : Int))) (0 : Int) (IntKind.u64.wrap (IntKind.u64.wrap (a + f123_1 (f162_0 k a b r g s m)) + (1 : Int)))
def f126 : List SV → Option (Tr SV)
  | [.agg [.int .i64 k, .int .u64 a, .int .i64 b, .int .i64 r, .int .i64 g, .int .i64 s, .int .u64 m]] => some (Tr.leaf (SV.int .u64 (f126_0 k a b r g s m)))
  | _ => none
theorem s126 : Sound Try.prog th 126 (pureC f126) := pure_auto (us := us126) (nice := nice162) nok162 20 fun args t h => by
  unfold f126 at h
  split at h
  · cases h; kernel_rfl
  · cases h
noncomputable def nice126 : List (Nat × CF th.R) := (126, pureC f126) :: nice162
theorem nok126 : NiceOk Try.prog th nice126 := ⟨s126, nok162⟩
end Go.Sx.M

namespace Go.Sx.M
open Go Go.Sx Go.Proofs Go.RowKit
def us129 : List Un := [⟨173, [(2, 6)], [6]⟩]
def f129_0 (k : Int) (a : Int) (b : Int) (r : Int) (g : Int) (s : Int) (m : Int) : Prop := (!f45_1 k a b r g s m) = false → cnd (k == (2 : Int)) true (k == (10 : Int)) = true → (0 : Int) ≤ b
def f129_1 (k : Int) (a : Int) (b : Int) (r : Int) (g : Int) (s : Int) (m : Int) : Int := cnd (!f45_1 k a b r g s m) (0 : Int) (cnd (cnd (k == (2 : Int)) true (k == (10 : Int))) (IntKind.i64.wrap ((1 : Int) * (2 : Int) ^ Min.min b.toNat IntKind.i64.bits)) (cnd (k == (8 : Int)) (2 : Int) (0 : Int)))
theorem n129_0 (k : Int) (a : Int) (b : Int) (r : Int) (g : Int) (s : Int) (m : Int) : f129_0 k a b r g s m := by
  simp only [f129_0, f45_0, f45_1, f120_0, f172_0, f172_1, cnd_eq]
  grind (splits := 40)
def f129 : List SV → Option (Tr SV)
  | [.agg [.int .i64 k, .int .u64 a, .int .i64 b, .int .i64 r, .int .i64 g, .int .i64 s, .int .u64 m]] => some (Tr.leaf (SV.int .i64 (f129_1 k a b r g s m)))
  | _ => none
theorem s129 : Sound Try.prog th 129 (pureC f129) := pure_auto2 (us := us129) (nice := nice126) nok126 20 fun args t h => by
  unfold f129 at h
  split at h
  · rename_i k a b r g s m
    cases h
    refine ⟨(Tr.need (f129_0 k a b r g s m) (Tr.leaf (SV.int .i64 (f129_1 k a b r g s m)))), by kernel_rfl, fun ok => ?_, rfl⟩
    first
    | (simp only [Tr.ok, n129_0, true_and, and_true, forall_const, implies_true]; done)
    | (simp only [Tr.ok, n129_0, true_and, and_true, forall_const, implies_true]; done)
    | (simpa only [Tr.ok, n129_0, true_and, and_true, forall_const, implies_true] using ok; done)
    | (simp only [Tr.ok, n129_0, true_and, and_true, forall_const, implies_true] at ok ⊢; grind)
  · cases h
noncomputable def nice129 : List (Nat × CF th.R) := (129, pureC f129) :: nice126
theorem nok129 : NiceOk Try.prog th nice129 := ⟨s129, nok126⟩
end Go.Sx.M

namespace Go.Sx.M
open Go Go.Sx Go.Proofs Go.RowKit
def us26 : List Un := [⟨173, [(2, 6)], [6]⟩]
def l26_0 (n : Int) (p : Int) (i : Int) (h : List (HO th.R)) (d : List Nat) (w : List Nat) : Bool := cnd (decide (i < n)) false true
def l26_1 (n : Int) (p : Int) (i : Int) (h : List (HO th.R)) (d : List Nat) (w : List Nat) : Bool := decide (i < n)
def l26_2 (n : Int) (p : Int) (i : Int) (h : List (HO th.R)) (d : List Nat) (w : List Nat) : Int := IntKind.u64.wrap (p + p)
def l26_3 (n : Int) (p : Int) (i : Int) (h : List (HO th.R)) (d : List Nat) (w : List Nat) : Int := IntKind.i64.wrap (i + (1 : Int))
def l26 (n p i : Int) (h : List (HO th.R)) (d w : List Nat) : Tr (Ex × St th.R) := (Tr.ite (l26_0 n p i h d w) (Tr.leaf ((Ex.exit (0:Nat)), (St.mk [some (SV.int .i64 (n)), none, (some (SV.int .u64 (0 : Int))), some (SV.int .u64 (p)), some (SV.int .i64 (i)), some (SV.int .i64 (i)), some (SV.int .i64 (n)), some (SV.bool (l26_1 n p i h d w)), none, none, none, none, none, none] (h) (d) ((7 : Nat) :: (6 : Nat) :: (5 : Nat) :: (w))))) (Tr.leaf (Ex.normal, (St.mk [some (SV.int .i64 (n)), none, (some (SV.int .u64 (0 : Int))), some (SV.int .u64 (l26_2 n p i h d w)), some (SV.int .i64 (l26_3 n p i h d w)), some (SV.int .i64 (i)), some (SV.int .i64 (n)), some (SV.bool (l26_1 n p i h d w)), some (SV.int .i64 (i)), some (SV.int .i64 (l26_3 n p i h d w)), some (SV.int .u64 (p)), some (SV.int .u64 (p)), some (SV.int .u64 (l26_2 n p i h d w)), none] (h) (d) ((4 : Nat) :: (9 : Nat) :: (8 : Nat) :: (3 : Nat) :: (12 : Nat) :: (11 : Nat) :: (10 : Nat) :: (7 : Nat) :: (6 : Nat) :: (5 : Nat) :: (w))))))
def p26 (i : Nat) : Int := ((2 ^ i % 18446744073709551616 : Nat) : Int)
def i26 (n : Int) (h : List (HO th.R)) (d w : List Nat) (i : Nat) : St th.R :=
  ⟨[some (.int .i64 n), none, some (.int .u64 0), some (.int .u64 (p26 i)), some (.int .i64 i), none, none, none, none, none, none, none, none, none], h, d, w⟩
def o26 (n : Int) (h : List (HO th.R)) (d w : List Nat) (i : Nat) : St th.R :=
  ⟨[some (.int .i64 n), none, some (.int .u64 0), some (.int .u64 (p26 i)), none, none, none, none, none, none, none, none, none, none], h, d, [3, 4, 5, 6, 7, 8, 9, 10, 11, 12, 13] ++ w⟩
def L26 (st : St th.R) : Out th := match st with
  | ⟨[some (.int .i64 n), none, some (.int .u64 z), some (.int .u64 p), some (.int .i64 i), _, _, _, _, _, _, _, _, _], h, d, w⟩ =>
    some (.need (z = 0 ∧ p = 1 ∧ i = 0 ∧ n ≤ 4611686018427387904) (.leaf (.exit 0, o26 n h d w n.toNat)))
  | _ => none
def H26 : Hints th := Hints.mk (fun n => match beqN n 3 with
    | true => some L26
    | false => none) (fun _ => none) (fun _ => false) (fun _ => none) []
theorem L26_sound : CodeSound th Try.prog (.loop (lpAt Try.prog 26 0)) L26 := by
  intro st t h hok
  unfold L26 at h
  split at h
  · rename_i n z p i s5 s6 s7 s8 s9 s10 s11 s12 s13 h d w
    cases h
    obtain ⟨⟨rfl, rfl, rfl, hn⟩, _⟩ := hok
    refine ⟨⟨Nat.le_refl _, rfl, fun _ x => x, fun _ x => List.mem_append_right _ x, fun _ _ _ => rfl, ?_⟩, fun K w0 ρ a wd Q hr hQ => ?_⟩
    · intro m hm
      simp only [Tr.get, o26, List.mem_append, List.mem_cons, not_or] at hm ⊢
      match m, hm with
      | 0, _ => rfl
      | 1, _ => rfl
      | 2, _ => rfl
      | 3, hm => exact absurd rfl hm.1.1
      | 4, hm => exact absurd rfl hm.1.2.1
      | 5, hm => exact absurd rfl hm.1.2.2.1
      | 6, hm => exact absurd rfl hm.1.2.2.2.1
      | 7, hm => exact absurd rfl hm.1.2.2.2.2.1
      | 8, hm => exact absurd rfl hm.1.2.2.2.2.2.1
      | 9, hm => exact absurd rfl hm.1.2.2.2.2.2.2.1
      | 10, hm => exact absurd rfl hm.1.2.2.2.2.2.2.2.1
      | 11, hm => exact absurd rfl hm.1.2.2.2.2.2.2.2.2.1
      | 12, hm => exact absurd rfl hm.1.2.2.2.2.2.2.2.2.2.1
      | 13, hm => exact absurd rfl hm.1.2.2.2.2.2.2.2.2.2.2.1
      | m + 14, _ => rfl
    · have hwk := Wk.blank (T := th) (s := ⟨[some (.int .i64 n), none, some (.int .u64 0), some (.int .u64 1), some (.int .i64 0), s5, s6, s7, s8, s9, s10, s11, s12, s13], h, d, w⟩) (s' := i26 n h d w 0) [5, 6, 7, 8, 9, 10, 11, 12, 13] rfl rfl
      obtain ⟨ρ1, hp1, hr1⟩ := hwk K w0 ρ a wd hr
      refine loop_rule (evCode_sound (tbl := fun _ => none) (fun _ _ e => by cases e) (noLoops th (fun _ => none) (fun _ => false)) _ (LoopsOk_none (fun _ => rfl) (fun _ => rfl) _)) (N := n.toNat) (I := i26 n h d w) (F := o26 n h d w n.toNat) (ex := .exit 0)
        (fun e => by cases e) ?_ ?_ hr1 (fun ρ' a' w' hp hr' => hQ ρ' a' w' (hp1.trans hp) hr')
      · intro i hi
        have hc : decide ((i : Int) < n) = true := by simp; omega
        refine ⟨l26 n (p26 i) i h d w, by kernel_rfl, ?_, ?_, ?_⟩
        · simp only [l26, l26_0, hc, cnd, Tr.ok]; exact ⟨(fun e => by cases e), fun _ => trivial⟩
        · simp only [l26, l26_0, hc, cnd, Tr.get]
        · have e1 : l26_2 n (p26 i) i h d w = p26 (i + 1) := by
            simp only [l26_2, p26, wrap_u64]
            have : 2 ^ (i + 1) = 2 ^ i + 2 ^ i := by rw [Nat.pow_succ]; omega
            rw [this]
            generalize 2 ^ i = q
            omega
          have e2 : l26_3 n (p26 i) i h d w = ((i + 1 : Nat) : Int) := by
            simp only [l26_3]
            rw [wrap_i64 (by omega) (by omega)]
            omega
          refine Wk.blank [5, 6, 7, 8, 9, 10, 11, 12, 13] ?_ ?_
          · simp only [l26, l26_0, hc, cnd, Tr.get, e1, e2]; rfl
          · simp only [l26, l26_0, hc, cnd, Tr.get]; rfl
      · have hc : decide (((n.toNat : Nat) : Int) < n) = false := by simp; omega
        refine ⟨l26 n (p26 n.toNat) n.toNat h d w, by kernel_rfl, ?_, ?_, ?_⟩
        · simp only [l26, l26_0, hc, cnd, Tr.ok]; exact ⟨fun _ => trivial, (fun e => by cases e)⟩
        · simp only [l26, l26_0, hc, cnd, Tr.get]
        · refine Wk.blank [4, 5, 6, 7, 8, 9, 10, 11, 12, 13] ?_ ?_
          · simp only [l26, l26_0, hc, cnd, Tr.get]; rfl
          · simp only [l26, l26_0, hc, cnd, Tr.get]; rfl
  · cases h
def f26 : List SV → Option (Tr SV)
  | [.int .i64 n] => some (.need (n ≤ 4611686018427387904) (.leaf (.int .u64 (p26 n.toNat))))
  | _ => none
theorem s26 : Sound Try.prog th 26 (pureC f26) := pure_fn (tbl := fun _ => none) (H := H26) (fun _ _ e => by cases e)
  (LoopsOk_at (m := 1) (by kernel_rfl) (fun j hj L hL => by
    have : j = 0 := by omega
    subst this
    have e : H26.loops (firstReg (lpAt Try.prog 26 0)) = some L26 := by kernel_rfl
    rw [e] at hL
    cases hL
    exact L26_sound)) fun args t h hok => by
  unfold f26 at h
  split at h
  · rename_i n
    cases h
    exact ⟨.need ((0 : Int) = 0 ∧ (1 : Int) = 1 ∧ (0 : Int) = 0 ∧ n ≤ 4611686018427387904) (.leaf (.int .u64 (p26 n.toNat), [], [])), by kernel_rfl, ⟨⟨rfl, rfl, rfl, hok.1⟩, trivial⟩, rfl⟩
  · cases h
theorem p26_eq {n : Nat} (h : n ≤ 63) : p26 n = ((2 ^ n : Nat) : Int) := by
  have : 2 ^ n ≤ 2 ^ 63 := Nat.pow_le_pow_right (by omega) h
  unfold p26
  rw [Nat.mod_eq_of_lt (by omega)]
theorem p26_pos {n : Nat} (h : n ≤ 63) : 0 < p26 n := by
  have : 0 < 2 ^ n := Nat.pow_pos (by omega)
  rw [p26_eq h]
  exact Int.ofNat_lt.2 this
theorem p26_ne {n : Int} (h : n ≤ 63) : p26 n.toNat ≠ 0 := by
  have := p26_pos (n := n.toNat) (by omega)
  omega
noncomputable def nice26 : List (Nat × CF th.R) := (26, pureC f26) :: nice129
theorem nok26 : NiceOk Try.prog th nice26 := ⟨s26, nok129⟩
end Go.Sx.M

namespace Go.Sx.M
open Go Go.Sx Go.Proofs Go.RowKit
def us176 : List Un := [⟨173, [(2, 6)], [6]⟩]
def f176_0 (k : Int) (b : Int) : Int := cnd (cnd (cnd (k == (0 : Int)) true (k == (6 : Int))) (b == (0 : Int)) false) (-1 : Int) (cnd (cnd (k == (0 : Int)) true (k == (6 : Int))) (-2 : Int) (cnd (cnd (cnd (k == (1 : Int)) (decide (b ≥ (5 : Int))) false) (decide (b ≤ (32 : Int))) false) b (cnd (cnd (cnd (cnd (k == (2 : Int)) true (k == (10 : Int))) (decide (b ≥ (1 : Int))) false) (decide (b ≤ (12 : Int))) false) (IntKind.i64.wrap (b + (5 : Int))) (cnd (cnd (k == (3 : Int)) (cnd (cnd (b == (12 : Int)) true (b == (21 : Int))) true (b == (30 : Int))) false) b (cnd (cnd (cnd (cnd (k == (4 : Int)) true (k == (5 : Int))) true (k == (7 : Int))) (b == (12 : Int)) false) (12 : Int) (cnd (cnd (cnd (k == (8 : Int)) (b == (7 : Int)) false) true (cnd (k == (9 : Int)) (b == (5 : Int)) false)) b (-2 : Int)))))))
def f176 : List SV → Option (Tr SV)
  | [.int .i64 k, .int .i64 b] => some (Tr.leaf (SV.int .i64 (f176_0 k b)))
  | _ => none
theorem s176 : Sound Try.prog th 176 (pureC f176) := pure_auto (us := us176) (nice := nice26) nok26 20 fun args t h => by
  unfold f176 at h
  split at h
  · cases h; kernel_rfl
  · cases h
theorem b30 (k b : Int) : f176_0 k b ≤ 63 := by
  simp only [f176_0, cnd_eq]
  grind (splits := 40) [wrap_i64]
noncomputable def nice176 : List (Nat × CF th.R) := (176, pureC f176) :: nice26
theorem nok176 : NiceOk Try.prog th nice176 := ⟨s176, nok26⟩
end Go.Sx.M

namespace Go.Sx.M
open Go Go.Sx Go.Proofs Go.RowKit
def us118 : List Un := [⟨173, [(2, 6)], [6]⟩]
def f118_0 (r : Int) : Bool := cnd (decide (r ≥ (0 : Int))) (decide (r ≤ (7 : Int))) false
def f118 : List SV → Option (Tr SV)
  | [.int .i64 r] => some (Tr.leaf (SV.bool (f118_0 r)))
  | _ => none
theorem s118 : Sound Try.prog th 118 (pureC f118) := pure_auto (us := us118) (nice := nice176) nok176 20 fun args t h => by
  unfold f118 at h
  split at h
  · cases h; kernel_rfl
  · cases h
noncomputable def nice118 : List (Nat × CF th.R) := (118, pureC f118) :: nice176
theorem nok118 : NiceOk Try.prog th nice118 := ⟨s118, nok176⟩
end Go.Sx.M

namespace Go.Sx.M
open Go Go.Sx Go.Proofs Go.RowKit
def us166 : List Un := [⟨173, [(2, 6)], [6]⟩]
def halves (w : Int) : Nat → Int
  | 0 => w
  | n + 1 => IntKind.u64.wrap ((halves w n).tdiv 2)
def bitI (w : Int) (j : Nat) : Bool := (halves w j).tmod 2 == 1
def fill66 (w : Int) : Nat → Nat → Bool
  | 0 => fun _ => false
  | n + 1 => fun j => cnd (Nat.beq (cnt n).toNat j) (bitI w n) (fill66 w n j)
noncomputable def E66 : St th.R → Out th := evCode th Try.prog (fun _ => none) (noLoops th (fun _ => none) (fun _ => false)) (lpAt Try.prog 166 0)
def i66 (w : Int) (z : HO th.R) (d ws : List Nat) (i : Nat) : St th.R :=
  ⟨[some (.int .u64 (halves w i)), none, some (.ptr 0 0), some (.ptr 1 0), some (.int .i64 (cnt i)), none, none, none, none, none, none, none, none, none, none, none, none], [z, .cells 212 (bl 64 (fill66 w i))], d, ws⟩
def o66 (w : Int) (z : HO th.R) (d ws : List Nat) : St th.R :=
  ⟨[none, none, some (.ptr 0 0), some (.ptr 1 0), none, none, none, none, none, none, none, none, none, none, none, none, none], [z, .cells 212 (bl 64 (bitI w))], List.range 2 ++ d, List.range 17 ++ ws⟩
def L66 (st : St th.R) : Out th := match st with
  | ⟨[some (.int .u64 w), none, some (.ptr 0 0), some (.ptr 1 0), some (.int .i64 i), none, none, none, none, none, none, none, none, none, none, none, none], [z, .cells 212 l], d, ws⟩ =>
    some (.need (i = 0 ∧ l = bl 64 (fill66 w 0)) (.leaf (.exit 0, o66 w z d ws)))
  | _ => none
theorem fill66_eq (w : Int) : ∀ n j, n ≤ 64 → fill66 w n j = if j < n then bitI w j else false
  | 0, j, _ => by simp [fill66]
  | n + 1, j, h => by
    show cnd (Nat.beq (cnt n).toNat j) (bitI w n) (fill66 w n j) = _
    rw [fill66_eq w n j (by omega), cnt_eq (by omega)]
    by_cases e : n = j
    · subst e; simp [cnd]
    · have : Nat.beq ((n : Int).toNat) j = false := by
        cases hb : Nat.beq ((n : Int).toNat) j with
        | false => rfl
        | true => have := Nat.eq_of_beq_eq_true hb; simp at this; exact absurd this e
      rw [this]
      simp only [cnd]
      by_cases h1 : j < n
      · have : j < n + 1 := by omega
        simp [h1, this]
      · have : ¬ j < n + 1 := by omega
        simp [h1, this]
theorem L66_sound : CodeSound th Try.prog (.loop (lpAt Try.prog 166 0)) L66 := by
  intro st t h hok
  unfold L66 at h
  split at h
  · rename_i w i z l d ws
    cases h
    obtain ⟨⟨rfl, rfl⟩, _⟩ := hok
    refine ⟨grow_mk (Nat.le_refl _) rfl rfl rfl, fun K w0 ρ a wd Q hr hQ => ?_⟩
    refine loop_rule (show CodeSound th Try.prog (lpAt Try.prog 166 0) E66 from plain_body (tbl := fun _ => none) (fun _ _ e => by cases e) _) (N := 64) (I := i66 w z d ws) (F := o66 w z d ws) (ex := .exit 0) (fun e => by cases e) ?_ ?_ hr hQ
    · intro i hi
      have hc := cnt_eq (n := i) (by omega)
      refine goes_on (c := cnd (decide (cnt i < 64)) false true) [5, 6, 7, 8, 9, 10, 11, 12, 13, 14, 15] (by kernel_rfl) ?_ ?_ (by kernel_rfl) (by kernel_rfl) (by kernel_rfl)
      · have : decide (cnt i < 64) = true := by rw [hc]; simp; omega
        rw [this]; rfl
      · have e : (rt (ob (E66 (i66 w z d ws i)))).ok = ((2 : Int) ≠ 0 ∧ (0 ≤ cnt i ∧ cnt i < 64) ∧ (cnt i).toNat < (bl 64 (fill66 w i)).length ∧ (2 : Int) ≠ 0 ∧ True) := by kernel_rfl
        rw [e, hc]
        simp [bl]
        omega
    · have hf : bl 64 (fill66 w 64) = bl 64 (bitI w) := bl_congr fun j hj => by rw [fill66_eq w 64 j (by omega), if_pos hj]
      refine goes_out (c := cnd (decide (cnt 64 < 64)) false true) [0, 4, 5, 6] (by kernel_rfl) ?_ ?_ (by kernel_rfl) (by kernel_rfl) ?_
      · rw [cnt_eq (by omega)]; rfl
      · show (lf (ob (E66 (i66 w z d ws 64)))).ok
        have e : (lf (ob (E66 (i66 w z d ws 64)))).ok = True := by kernel_rfl
        rw [e]; trivial
      · have e : (lf (ob (E66 (i66 w z d ws 64)))).get.2.heap = [z, .cells 212 (bl 64 (fill66 w 64))] := by kernel_rfl
        exact (congrArg (fun x => [z, HO.cells 212 x]) hf.symm).trans e.symm
  · cases h
def f166 : List SV → Option (Tr SV)
  | [.int .u64 w] => some (.leaf (.agg (bl 64 (bitI w))))
  | _ => none
theorem s166 : Sound Try.prog th 166 (pureC f166) := pure_fn (tbl := fun _ => none) (H := oneLoop 3 L66) (fun _ _ e => by cases e)
  (oneLoop_ok (by kernel_rfl) (by kernel_rfl) L66_sound) fun args t h hok => by
  unfold f166 at h
  split at h
  · rename_i w
    cases h
    exact ⟨.need ((0 : Int) = 0 ∧ bl 64 (fill66 w 0) = bl 64 (fill66 w 0)) (.leaf (.agg (bl 64 (bitI w)), [], [])), by kernel_rfl, ⟨⟨rfl, rfl⟩, trivial⟩, rfl⟩
  · cases h
noncomputable def nice166 : List (Nat × CF th.R) := (166, pureC f166) :: nice118
theorem nok166 : NiceOk Try.prog th nice166 := ⟨s166, nok118⟩
end Go.Sx.M

namespace Go.Sx.M
open Go Go.Sx Go.Proofs Go.RowKit
def us167 : List Un := [⟨173, [(2, 6)], [6]⟩]
def cd67 : Nat → Int
  | 0 => 63
  | n + 1 => IntKind.i64.wrap (cd67 n - 1)
def sel67 (f : Nat → Bool) (n : Nat) : Bool := ((List.range 64).map f).getD n false
def word67 (f : Nat → Bool) : Nat → Int
  | 0 => 0
  | n + 1 => cnd (sel67 f (cd67 n).toNat) (IntKind.u64.wrap (IntKind.u64.wrap (word67 f n * 2) + 1)) (IntKind.u64.wrap (word67 f n * 2))
noncomputable def E67 : St th.R → Out th := evCode th Try.prog (fun _ => none) (noLoops th (fun _ => none) (fun _ => false)) (lpAt Try.prog 167 0)
def i67 (f : Nat → Bool) (a : SV) (d ws : List Nat) (i : Nat) : St th.R :=
  ⟨[some a, some (.ptr 0 0), some (.int .u64 0), some (.int .u64 (word67 f i)), some (.int .i64 (cd67 i)), none, none, none, none, none, none, none, none, none, none, none, none], [.cells 212 (bl 64 f)], d, ws⟩
def o67 (f : Nat → Bool) (d ws : List Nat) : St th.R :=
  ⟨[none, none, none, some (.int .u64 (word67 f 64)), none, none, none, none, none, none, none, none, none, none, none, none, none], [.cells 212 (bl 64 f)], List.range 1 ++ d, List.range 17 ++ ws⟩
def fOf (l : List SV) : Nat → Bool := fun j => (match boolsOf l with
  | some bs => bs
  | none => []).getD j false
def L67 (st : St th.R) : Out th := match st with
  | ⟨[some a, some (.ptr 0 0), some (.int .u64 z), some (.int .u64 p), some (.int .i64 i), none, none, none, none, none, none, none, none, none, none, none, none], [.cells 212 l], d, ws⟩ =>
    some (.need (z = 0 ∧ p = 0 ∧ i = 63 ∧ l = bl 64 (fOf l)) (.leaf (.exit 0, o67 (fOf l) d ws)))
  | _ => none
theorem cd67_eq : ∀ {n : Nat}, n ≤ 64 → cd67 n = 63 - n
  | 0, _ => rfl
  | n + 1, h => by
    rw [cd67, cd67_eq (by omega), wrap_i64 (by omega) (by omega)]
    omega
theorem L67_sound : CodeSound th Try.prog (.loop (lpAt Try.prog 167 0)) L67 := by
  intro st t h hok
  unfold L67 at h
  split at h
  · rename_i a z p i l d ws
    cases h
    obtain ⟨⟨rfl, rfl, rfl, hl⟩, _⟩ := hok
    refine ⟨grow_mk (Nat.le_of_eq (by kernel_rfl)) (by kernel_rfl) (by kernel_rfl) (by kernel_rfl), fun K w0 ρ a' wd Q hr hQ => ?_⟩
    generalize fOf l = f at hl hQ
    subst hl
    refine loop_rule (show CodeSound th Try.prog (lpAt Try.prog 167 0) E67 from plain_body (tbl := fun _ => none) (fun _ _ e => by cases e) _) (N := 64) (I := i67 f a d ws) (F := o67 f d ws) (ex := .exit 0) (fun e => by cases e) ?_ ?_ hr hQ
    · intro i hi
      have hc := cd67_eq (n := i) (by omega)
      refine goes_on (c := cnd (decide (cd67 i ≥ 0)) false true) [5, 6, 7, 8, 9, 10, 11, 12, 13, 14, 15] (by kernel_rfl) ?_ ?_ (by kernel_rfl) (by kernel_rfl) (by kernel_rfl)
      · have : decide (cd67 i ≥ 0) = true := by rw [hc]; simp; omega
        rw [this]; rfl
      · have e : (rt (ob (E67 (i67 f a d ws i)))).ok = ((0 ≤ cd67 i ∧ cd67 i < 64) ∧ (cd67 i).toNat < (List.drop 0 (bl 64 f)).length ∧ True) := by kernel_rfl
        rw [e, hc]
        simp [bl]
        omega
    · refine goes_out (c := cnd (decide (cd67 64 ≥ 0)) false true) [0, 1, 2, 4, 5, 6] (by kernel_rfl) ?_ ?_ (by kernel_rfl) (by kernel_rfl) (by kernel_rfl)
      · rw [cd67_eq (by omega)]; rfl
      · have e : (lf (ob (E67 (i67 f a d ws 64)))).ok = True := by kernel_rfl
        rw [e]; trivial
  · cases h
def wordI (f : Nat → Bool) : Int := word67 f 64
def f167 : List SV → Option (Tr SV)
  | [.agg l] => match boolsOf l with
    | some bs => match Nat.decEq bs.length 64 with
      | .isTrue _ => some (.leaf (.int .u64 (wordI (fun j => bs.getD j false))))
      | .isFalse _ => none
    | none => none
  | _ => none
theorem fOf_bl (f : Nat → Bool) : bl 64 (fOf (bl 64 f)) = bl 64 f := by
  have : boolsOf (bl 64 f) = some ((List.range 64).map f) := by kernel_rfl
  unfold fOf
  rw [this]
  exact bl_congr fun j hj => by simp [List.getD_eq_getElem?_getD, hj]
theorem s167 : Sound Try.prog th 167 (pureC f167) := pure_fn (tbl := fun _ => none) (H := oneLoop 3 L67) (fun _ _ e => by cases e)
  (oneLoop_ok (by kernel_rfl) (by kernel_rfl) L67_sound) fun args t h hok => by
  unfold f167 at h
  split at h
  · rename_i l
    split at h
    · rename_i bs hbs
      split at h
      · rename_i hlen _
        cases h
        have e1 := boolsOf_eq hbs
        rw [bl_of hlen] at e1
        generalize (fun j => bs.getD j false) = f at e1 ⊢
        subst e1
        refine ⟨.need ((0 : Int) = 0 ∧ (0 : Int) = 0 ∧ (63 : Int) = 63 ∧ bl 64 f = bl 64 (fOf (bl 64 f))) (.leaf (.int .u64 (word67 (fOf (bl 64 f)) 64), [], [])), by kernel_rfl, ⟨⟨rfl, rfl, rfl, (fOf_bl f).symm⟩, trivial⟩, ?_⟩
        have : word67 (fOf (bl 64 f)) 64 = word67 f 64 := by
          have hs : ∀ n, sel67 (fOf (bl 64 f)) n = sel67 f n := by
            intro n
            have : (List.range 64).map (fOf (bl 64 f)) = (List.range 64).map f := by kernel_rfl
            unfold sel67
            rw [this]
          have : ∀ n, word67 (fOf (bl 64 f)) n = word67 f n := by
            intro n
            induction n with
            | zero => rfl
            | succ n ih => simp only [word67, ih, hs]
          exact this 64
        simp only [Tr.get, wordI, this]
      · cases h
    · cases h
  · cases h
theorem word67_congr {f g : Nat → Bool} (h : ∀ j, j < 64 → f j = g j) (n : Nat) : word67 f n = word67 g n := by
  have hs : ∀ n, sel67 f n = sel67 g n := by
    intro n
    unfold sel67
    rw [List.map_congr_left fun j hj => h j (List.mem_range.1 hj)]
  induction n with
  | zero => rfl
  | succ n ih => simp only [word67, ih, hs]
theorem wordI_congr {f g : Nat → Bool} (h : ∀ j, j < 64 → f j = g j) : wordI f = wordI g := by
  unfold wordI
  exact word67_congr h 64
noncomputable def nice167 : List (Nat × CF th.R) := (167, pureC f167) :: nice166
theorem nok167 : NiceOk Try.prog th nice167 := ⟨s167, nok166⟩
end Go.Sx.M

namespace Go.Sx.M
open Go Go.Sx Go.Proofs Go.RowKit
def us212 : List Un := [⟨173, [(2, 6)], [6]⟩]
def fill72 (f : Nat → Bool) : Nat → Nat → Bool
  | 0 => f
  | n + 1 => fun j => cnd (Nat.beq (cnt n).toNat j) false (fill72 f n j)
def down72 (f : Nat → Bool) (n : Int) (j : Nat) : Bool := if j < min n.toNat 64 then false else f j
noncomputable def E72 : St th.R → Out th := evCode th Try.prog (fun _ => none) (noLoops th (fun _ => none) (fun _ => false)) (lpAt Try.prog 212 0)
def i72 (w n : Int) (f : Nat → Bool) (d ws : List Nat) (i : Nat) : St th.R :=
  ⟨[some (.int .u64 w), some (.int .i64 n), none, none, some (.int .u64 0), some (.ptr 0 0), some (.int .i64 (cnt i)), none, none, none, none, none, none, none, none, none, none, none, none, none, none, none], [.cells 212 (bl 64 (fill72 f i))], d, ws⟩
def o72 (n : Int) (f : Nat → Bool) (d ws : List Nat) : St th.R :=
  ⟨[none, none, none, none, none, some (.ptr 0 0), none, none, none, none, none, none, none, none, none, none, none, none, none, none, none, none], [.cells 212 (bl 64 (down72 f n))], List.range 1 ++ d, List.range 22 ++ ws⟩
def fOf72 (l : List SV) : Nat → Bool := fun j => (match boolsOf l with
  | some bs => bs
  | none => []).getD j false
def L72 (st : St th.R) : Out th := match st with
  | ⟨[some (.int .u64 w), some (.int .i64 n), none, none, some (.int .u64 z), some (.ptr 0 0), some (.int .i64 i), t7, t8, none, none, none, none, none, none, none, none, none, none, none, none, none], [.cells 212 l], d, ws⟩ =>
    some (.need (z = 0 ∧ i = 0 ∧ l = bl 64 (fOf72 l)) (.leaf (.exit 0, o72 n (fOf72 l) d ws)))
  | _ => none
theorem fill72_eq (f : Nat → Bool) : ∀ n j, n ≤ 64 → fill72 f n j = if j < n then false else f j
  | 0, j, _ => by simp [fill72]
  | n + 1, j, h => by
    show cnd (Nat.beq (cnt n).toNat j) false (fill72 f n j) = _
    rw [fill72_eq f n j (by omega), cnt_eq (by omega)]
    by_cases e : n = j
    · subst e; simp [cnd]
    · have : Nat.beq ((n : Int).toNat) j = false := by
        cases hb : Nat.beq ((n : Int).toNat) j with
        | false => rfl
        | true => have := Nat.eq_of_beq_eq_true hb; simp at this; exact absurd this e
      rw [this]
      simp only [cnd]
      by_cases h1 : j < n
      · have : j < n + 1 := by omega
        simp [h1, this]
      · have : ¬ j < n + 1 := by omega
        simp [h1, this]
theorem L72_sound : CodeSound th Try.prog (.loop (lpAt Try.prog 212 0)) L72 := by
  intro st t h hok
  unfold L72 at h
  split at h
  · rename_i w n z i t7 t8 l d ws
    cases h
    obtain ⟨⟨rfl, rfl, hl⟩, _⟩ := hok
    refine ⟨grow_mk (Nat.le_of_eq (by kernel_rfl)) (by kernel_rfl) (by kernel_rfl) (by kernel_rfl), fun K w0 ρ a' wd Q hr hQ => ?_⟩
    generalize fOf72 l = f at hl hQ
    subst hl
    obtain ⟨ρ1, hp1, hr1⟩ := Wk.blank (T := th) (s := ⟨[some (.int .u64 w), some (.int .i64 n), none, none, some (.int .u64 0), some (.ptr 0 0), some (.int .i64 0), t7, t8, none, none, none, none, none, none, none, none, none, none, none, none, none], [.cells 212 (bl 64 f)], d, ws⟩) (s' := i72 w n f d ws 0) [7, 8] (by kernel_rfl) (by kernel_rfl) K w0 ρ a' wd hr
    refine loop_rule (show CodeSound th Try.prog (lpAt Try.prog 212 0) E72 from plain_body (tbl := fun _ => none) (fun _ _ e => by cases e) _) (N := min n.toNat 64) (I := i72 w n f d ws) (F := o72 n f d ws) (ex := .exit 0) (fun e => by cases e) ?_ ?_ hr1 (fun ρ' a w' hp hr' => hQ ρ' a w' (hp1.trans hp) hr')
    · intro i hi
      have hc := cnt_eq (n := i) (by omega)
      refine goes_on (c := cnd (cnd (decide (cnt i < n)) (decide (cnt i < 64)) false) false true) [9, 10, 11, 12, 13, 14, 15, 16, 17, 18, 19] (by kernel_rfl) ?_ ?_ (by kernel_rfl) (by kernel_rfl) (by kernel_rfl)
      · have h1 : decide (cnt i < n) = true := by rw [hc]; simp; omega
        have h2 : decide (cnt i < 64) = true := by rw [hc]; simp; omega
        rw [h1, h2]; rfl
      · have e : (rt (ob (E72 (i72 w n f d ws i)))).ok = ((0 ≤ cnt i ∧ cnt i < 64) ∧ (cnt i).toNat < (bl 64 (fill72 f i)).length ∧ True) := by kernel_rfl
        rw [e, hc]
        simp [bl]
        omega
    · generalize hN : min n.toNat 64 = N
      have hc := cnt_eq (n := N) (by omega)
      have hf : bl 64 (fill72 f N) = bl 64 (down72 f n) := bl_congr fun j hj => by rw [fill72_eq f N j (by omega)]; unfold down72; rw [hN]
      refine goes_out (c := cnd (cnd (decide (cnt N < n)) (decide (cnt N < 64)) false) false true) [0, 1, 4, 6, 9, 10, 11, 12, 13, 14, 15] (by kernel_rfl) ?_ ?_ (by kernel_rfl) (by kernel_rfl) ?_
      · rw [hc]
        by_cases h1 : (N : Int) < n
        · have h2 : ¬ (N : Int) < 64 := by omega
          simp [h1, h2, cnd]
        · simp [h1, cnd]
      · have e : (lf (ob (E72 (i72 w n f d ws N)))).ok = True := by kernel_rfl
        rw [e]; trivial
      · have e : (lf (ob (E72 (i72 w n f d ws N)))).get.2.heap = [.cells 212 (bl 64 (fill72 f N))] := by kernel_rfl
        exact (congrArg (fun x => [HO.cells 212 x]) hf.symm).trans e.symm
  · cases h
def downI (w n : Int) : Int := wordI (down72 (bitI w) n)
def f212 : List SV → Option (Tr SV)
  | [.int .u64 w, .int .i64 n] => some (.leaf (.int .u64 (downI w n)))
  | _ => none
theorem fOf72_bl {f : Nat → Bool} {j : Nat} (hj : j < 64) : fOf72 (bl 64 f) j = f j := by
  have : boolsOf (bl 64 f) = some ((List.range 64).map f) := by kernel_rfl
  unfold fOf72
  rw [this]
  simp [List.getD_eq_getElem?_getD, hj]
theorem s212 : Sound Try.prog th 212 (pureC f212) := pure_fn (tbl := auto th Try.prog nice167 us212 20) (H := oneLoop 3 L72) (auto_sound nok167 20)
  (oneLoop_ok (by kernel_rfl) (by kernel_rfl) L72_sound) fun args t h hok => by
  unfold f212 at h
  split at h
  · rename_i w n
    cases h
    refine ⟨.need ((0 : Int) = 0 ∧ (0 : Int) = 0 ∧ bl 64 (bitI w) = bl 64 (fOf72 (bl 64 (bitI w)))) (.leaf (.int .u64 (wordI (fun j => ((List.range 64).map (down72 (fOf72 (bl 64 (bitI w))) n)).getD j false)), [], [])), by kernel_rfl, ⟨⟨rfl, rfl, ?_⟩, trivial⟩, ?_⟩
    · exact bl_congr fun j hj => (fOf72_bl hj).symm
    · have : wordI (fun j => ((List.range 64).map (down72 (fOf72 (bl 64 (bitI w))) n)).getD j false) = downI w n := by
        unfold downI
        refine wordI_congr fun j hj => ?_
        simp only [List.getD_eq_getElem?_getD, List.getElem?_map, List.getElem?_range hj, Option.map_some, Option.getD_some]
        unfold down72
        rw [fOf72_bl hj]
      exact congrArg (fun x => (SV.int .u64 x, ([] : List (HO th.R)), ([] : List Nat))) this
  · cases h
noncomputable def nice212 : List (Nat × CF th.R) := (212, pureC f212) :: nice167
theorem nok212 : NiceOk Try.prog th nice212 := ⟨s212, nok167⟩
end Go.Sx.M

namespace Go.Sx.M
open Go Go.Sx Go.Proofs Go.RowKit
def us213 : List Un := [⟨173, [(2, 6)], [6]⟩]
def f213_0 (l : Int) : Prop := (0 : Int) ≤ l ∧ l < (4 : Int)
def f213_1 (l : Int) : Prop := l.toNat < (4 : Nat)
def f213_2 (l : Int) : Int := [(39 : Int), (30 : Int), (21 : Int), (12 : Int)].getD l.toNat (0 : Int)
def f213 : List SV → Option (Tr SV)
  | [.int .i64 l] => some (.need (0 ≤ l ∧ l < 4) (.leaf (.int .i64 (f213_2 l))))
  | _ => none
theorem s213 : Sound Try.prog th 213 (pureC f213) := pure_auto2 (us := us213) (nice := nice212) nok212 20 fun args t h => by
  unfold f213 at h
  split at h
  · rename_i l
    cases h
    refine ⟨(Tr.need (f213_0 l) (Tr.need (f213_1 l) (Tr.leaf (SV.int .i64 (f213_2 l))))), by kernel_rfl, fun ok => ?_, by kernel_rfl⟩
    first
    | (simp only [Tr.ok, true_and, and_true, forall_const, implies_true]; done)
    | (simp only [Tr.ok, true_and, and_true, forall_const, implies_true]; done)
    | (simpa only [Tr.ok, true_and, and_true, forall_const, implies_true] using ok; done)
    | (simp only [Tr.ok, f213_0, f213_1, true_and, and_true, forall_const, implies_true] at ok ⊢; grind)
  · cases h
noncomputable def nice213 : List (Nat × CF th.R) := (213, pureC f213) :: nice212
theorem nok213 : NiceOk Try.prog th nice213 := ⟨s213, nok212⟩
end Go.Sx.M

namespace Go.Sx.M
open Go Go.Sx Go.Proofs Go.RowKit
def us197 : List Un := [⟨173, [(2, 6)], [6]⟩]
def f197_0 (w : Int) (l : Int) : Prop := (281474976710656 : Int) ≠ (0 : Int)
def f197_1 (w : Int) (l : Int) : Prop := (0 : Int) ≤ l ∧ l < (4 : Int)
def f197_2 (w : Int) (l : Int) : Int := downI (w.tmod (281474976710656 : Int)) (f213_2 l)
theorem n197_0 (w : Int) (l : Int) : f197_0 w l := by
  simp only [f197_0, cnd_eq]
  grind (splits := 40)
def f197 : List SV → Option (Tr SV)
  | [.int .u64 w, .int .i64 l] => some (Tr.need (f197_1 w l) (Tr.leaf (SV.int .u64 (f197_2 w l))))
  | _ => none
theorem s197 : Sound Try.prog th 197 (pureC f197) := pure_auto2 (us := us197) (nice := nice213) nok213 20 fun args t h => by
  unfold f197 at h
  split at h
  · rename_i w l
    cases h
    refine ⟨(Tr.need (f197_0 w l) (Tr.need (f197_1 w l) (Tr.leaf (SV.int .u64 (f197_2 w l))))), by kernel_rfl, fun ok => ?_, rfl⟩
    first
    | (simp only [Tr.ok, n197_0, true_and, and_true, forall_const, implies_true]; done)
    | (simp only [Tr.ok, n197_0, true_and, and_true, forall_const, implies_true]; done)
    | (simpa only [Tr.ok, n197_0, true_and, and_true, forall_const, implies_true] using ok; done)
    | (simp only [Tr.ok, n197_0, f197_1, true_and, and_true, forall_const, implies_true] at ok ⊢; grind)
  · cases h
noncomputable def nice197 : List (Nat × CF th.R) := (197, pureC f197) :: nice213
theorem nok197 : NiceOk Try.prog th nice197 := ⟨s197, nok213⟩
end Go.Sx.M

namespace Go.Sx.M
open Go Go.Sx Go.Proofs Go.RowKit
def us177 : List Un := [⟨173, [(2, 6)], [6]⟩]
def f177_0 (w : Int) (l : Int) : Prop := cnd (decide (w < (281474976710656 : Int))) true false = true → f197_1 w l
def f177_1 (w : Int) (l : Int) : Bool := cnd (decide (w < (281474976710656 : Int))) (f197_2 w l == w) false
def f177 : List SV → Option (Tr SV)
  | [.int .u64 w, .int .i64 l] => some (Tr.need (f177_0 w l) (Tr.leaf (SV.bool (f177_1 w l))))
  | _ => none
theorem s177 : Sound Try.prog th 177 (pureC f177) := pure_auto (us := us177) (nice := nice197) nok197 20 fun args t h => by
  unfold f177 at h
  split at h
  · cases h; kernel_rfl
  · cases h
noncomputable def nice177 : List (Nat × CF th.R) := (177, pureC f177) :: nice197
theorem nok177 : NiceOk Try.prog th nice177 := ⟨s177, nok197⟩
end Go.Sx.M

namespace Go.Sx.M
open Go Go.Sx Go.Proofs Go.RowKit
def us127 : List Un := [⟨173, [(2, 6)], [6]⟩]
def f127_0 (k : Int) (a : Int) (b : Int) (r : Int) (g : Int) (s : Int) (m : Int) : Prop := decide (f176_0 k b < (0 : Int)) = false → (cnd (decide (a < (4294967296 : Int))) true false = true → f176_0 k b ≤ (4611686018427387904 : Int)) ∧ (cnd (decide (a < (4294967296 : Int))) true false = true → p26 (f176_0 k b).toNat ≠ (0 : Int)) ∧ (cnd (cnd (decide (a < (4294967296 : Int))) (a.tmod (p26 (f176_0 k b).toNat) == (0 : Int)) false) true false = true → f176_0 k b ≤ (4611686018427387904 : Int))
def f127_1 (k : Int) (a : Int) (b : Int) (r : Int) (g : Int) (s : Int) (m : Int) : Bool := cnd (decide (f176_0 k b < (0 : Int))) (cnd (f176_0 k b == (-1 : Int)) (a == (0 : Int)) false) (cnd (cnd (decide (a < (4294967296 : Int))) (a.tmod (p26 (f176_0 k b).toNat) == (0 : Int)) false) (decide (IntKind.u64.wrap (a + p26 (f176_0 k b).toNat) ≤ (4294967296 : Int))) false)
theorem n127_0 (k : Int) (a : Int) (b : Int) (r : Int) (g : Int) (s : Int) (m : Int) : f127_0 k a b r g s m := by
  simp only [f127_0, cnd_eq]
  grind (splits := 40) [b30, p26_ne]
def f127 : List SV → Option (Tr SV)
  | [.agg [.int .i64 k, .int .u64 a, .int .i64 b, .int .i64 r, .int .i64 g, .int .i64 s, .int .u64 m]] => some (Tr.leaf (SV.bool (f127_1 k a b r g s m)))
  | _ => none
theorem s127 : Sound Try.prog th 127 (pureC f127) := pure_auto2 (us := us127) (nice := nice177) nok177 20 fun args t h => by
  unfold f127 at h
  split at h
  · rename_i k a b r g s m
    cases h
    refine ⟨(Tr.need (f127_0 k a b r g s m) (Tr.leaf (SV.bool (f127_1 k a b r g s m)))), by kernel_rfl, fun ok => ?_, rfl⟩
    first
    | (simp only [Tr.ok, n127_0, true_and, and_true, forall_const, implies_true]; done)
    | (simp only [Tr.ok, n127_0, true_and, and_true, forall_const, implies_true]; done)
    | (simpa only [Tr.ok, n127_0, true_and, and_true, forall_const, implies_true] using ok; done)
    | (simp only [Tr.ok, n127_0, true_and, and_true, forall_const, implies_true] at ok ⊢; grind)
  · cases h
noncomputable def nice127 : List (Nat × CF th.R) := (127, pureC f127) :: nice177
theorem nok127 : NiceOk Try.prog th nice127 := ⟨s127, nok177⟩
end Go.Sx.M

namespace Go.Sx.M
open Go Go.Sx Go.Proofs Go.RowKit
def us128 : List Un := [⟨173, [(2, 6)], [6]⟩]
def f128_0 (k : Int) (a : Int) (b : Int) (r : Int) (g : Int) (s : Int) (m : Int) : Prop := (k == (1 : Int)) = true → (true = true → b ≤ (4611686018427387904 : Int)) ∧ (cnd (decide (m ≤ p26 b.toNat)) true false = true → (32 : Int) ≠ (0 : Int))
def f128_1 (k : Int) (a : Int) (b : Int) (r : Int) (g : Int) (s : Int) (m : Int) : Prop := (k == (1 : Int)) = false → (k == (2 : Int)) = true → cnd (cnd (cnd (decide (g ≥ (0 : Int))) (decide (g ≤ (63 : Int))) false) (decide (g ≤ IntKind.i64.wrap ((64 : Int) - b))) false) true false = true → g ≤ (4611686018427387904 : Int)
def f128_2 (k : Int) (a : Int) (b : Int) (r : Int) (g : Int) (s : Int) (m : Int) : Prop := (k == (1 : Int)) = false → (k == (2 : Int)) = false → cnd (k == (4 : Int)) (s == (0 : Int)) false = false → (k == (4 : Int)) = true → cnd (cnd (decide (g ≥ (1 : Int))) (decide (g ≤ (3 : Int))) false) true false = true → f177_0 m (IntKind.i64.wrap (g - (1 : Int)))
def f128_3 (k : Int) (a : Int) (b : Int) (r : Int) (g : Int) (s : Int) (m : Int) : Prop := (k == (1 : Int)) = false → (k == (2 : Int)) = false → cnd (k == (4 : Int)) (s == (0 : Int)) false = false → (k == (4 : Int)) = false → (g != (0 : Int)) = false → cnd (k == (3 : Int)) (s != (0 : Int)) false = true → f177_0 m (cnd (b == (30 : Int)) (1 : Int) (cnd (b == (21 : Int)) (2 : Int) (3 : Int)))
def f128_4 (k : Int) (a : Int) (b : Int) (r : Int) (g : Int) (s : Int) (m : Int) : Prop := (k == (1 : Int)) = false → (k == (2 : Int)) = false → cnd (k == (4 : Int)) (s == (0 : Int)) false = false → (k == (4 : Int)) = false → (g != (0 : Int)) = false → cnd (k == (3 : Int)) (s != (0 : Int)) false = false → (k == (7 : Int)) = false → (k == (9 : Int)) = false → (k == (10 : Int)) = true → true = true → b ≤ (4611686018427387904 : Int)
def f128_5 (k : Int) (a : Int) (b : Int) (r : Int) (g : Int) (s : Int) (m : Int) : Bool := cnd (k == (1 : Int)) (cnd (cnd (decide (m ≤ p26 b.toNat)) (m.tmod (32 : Int) == (0 : Int)) false) (g == (0 : Int)) false) (cnd (k == (2 : Int)) (cnd (cnd (cnd (decide (g ≥ (0 : Int))) (decide (g ≤ (63 : Int))) false) (decide (g ≤ IntKind.i64.wrap ((64 : Int) - b))) false) (decide (m < p26 g.toNat)) false) (cnd (cnd (k == (4 : Int)) (s == (0 : Int)) false) (cnd (g == (0 : Int)) (m == (0 : Int)) false) (cnd (k == (4 : Int)) (cnd (cnd (decide (g ≥ (1 : Int))) (decide (g ≤ (3 : Int))) false) (f177_1 m (IntKind.i64.wrap (g - (1 : Int)))) false) (cnd (g != (0 : Int)) false (cnd (cnd (k == (3 : Int)) (s != (0 : Int)) false) (f177_1 m (cnd (b == (30 : Int)) (1 : Int) (cnd (b == (21 : Int)) (2 : Int) (3 : Int)))) (cnd (k == (7 : Int)) (decide (m < (8 : Int))) (cnd (k == (9 : Int)) true (cnd (k == (10 : Int)) (decide (m ≤ p26 b.toNat)) (m == (0 : Int))))))))))
theorem n128_1 (k : Int) (a : Int) (b : Int) (r : Int) (g : Int) (s : Int) (m : Int) : f128_1 k a b r g s m := by
  simp only [f128_1, f177_0, f197_0, f197_1, cnd_eq]
  grind (splits := 40) [wrap_i64]
theorem n128_2 (k : Int) (a : Int) (b : Int) (r : Int) (g : Int) (s : Int) (m : Int) : f128_2 k a b r g s m := by
  simp only [f128_2, f177_0, f197_0, f197_1, cnd_eq]
  grind (splits := 40) [wrap_i64]
theorem n128_3 (k : Int) (a : Int) (b : Int) (r : Int) (g : Int) (s : Int) (m : Int) : f128_3 k a b r g s m := by
  simp only [f128_3, f177_0, f197_0, f197_1, cnd_eq]
  grind (splits := 40) [wrap_i64]
def f128 : List SV → Option (Tr SV)
  | [.agg [.int .i64 k, .int .u64 a, .int .i64 b, .int .i64 r, .int .i64 g, .int .i64 s, .int .u64 m]] => some (Tr.need (f128_0 k a b r g s m) (Tr.need (f128_4 k a b r g s m) (Tr.leaf (SV.bool (f128_5 k a b r g s m)))))
  | _ => none
theorem s128 : Sound Try.prog th 128 (pureC f128) := pure_auto2 (us := us128) (nice := nice127) nok127 20 fun args t h => by
  unfold f128 at h
  split at h
  · rename_i k a b r g s m
    cases h
    refine ⟨(Tr.need (f128_0 k a b r g s m) (Tr.need (f128_1 k a b r g s m) (Tr.need (f128_2 k a b r g s m) (Tr.need (f128_3 k a b r g s m) (Tr.need (f128_4 k a b r g s m) (Tr.leaf (SV.bool (f128_5 k a b r g s m)))))))), by kernel_rfl, fun ok => ?_, rfl⟩
    first
    | (simp only [Tr.ok, n128_1, n128_2, n128_3, true_and, and_true, forall_const, implies_true]; done)
    | (simp only [Tr.ok, n128_1, n128_2, n128_3, true_and, and_true, forall_const, implies_true]; done)
    | (simpa only [Tr.ok, n128_1, n128_2, n128_3, true_and, and_true, forall_const, implies_true] using ok; done)
    | (simp only [Tr.ok, n128_1, n128_2, n128_3, f128_0, f128_4, true_and, and_true, forall_const, implies_true] at ok ⊢; grind)
  · cases h
noncomputable def nice128 : List (Nat × CF th.R) := (128, pureC f128) :: nice127
theorem nok128 : NiceOk Try.prog th nice128 := ⟨s128, nok127⟩
end Go.Sx.M

namespace Go.Sx.M
open Go Go.Sx Go.Proofs Go.RowKit
def us50 : List Un := [⟨173, [(2, 6)], [6]⟩]
def f50_0 (k : Int) (a : Int) (b : Int) (r : Int) (g : Int) (s : Int) (m : Int) : Prop := cnd (cnd (cnd (!f127_1 k a b r g s m) true !f118_0 r) true (decide (s < (0 : Int)))) true (decide (s > (4095 : Int))) = false → cnd (cnd (r != (0 : Int)) (k != (3 : Int)) false) (cnd (k != (9 : Int)) true (decide (r > (3 : Int)))) false = false → cnd (cnd (cnd (s != (0 : Int)) (k != (3 : Int)) false) (k != (4 : Int)) false) (k != (5 : Int)) false = false → f128_0 k a b r g s m
def f50_1 (k : Int) (a : Int) (b : Int) (r : Int) (g : Int) (s : Int) (m : Int) : Prop := cnd (cnd (cnd (!f127_1 k a b r g s m) true !f118_0 r) true (decide (s < (0 : Int)))) true (decide (s > (4095 : Int))) = false → cnd (cnd (r != (0 : Int)) (k != (3 : Int)) false) (cnd (k != (9 : Int)) true (decide (r > (3 : Int)))) false = false → cnd (cnd (cnd (s != (0 : Int)) (k != (3 : Int)) false) (k != (4 : Int)) false) (k != (5 : Int)) false = false → f128_4 k a b r g s m
def f50_2 (k : Int) (a : Int) (b : Int) (r : Int) (g : Int) (s : Int) (m : Int) : Bool := cnd (cnd (cnd (cnd (!f127_1 k a b r g s m) true !f118_0 r) true (decide (s < (0 : Int)))) true (decide (s > (4095 : Int)))) false (cnd (cnd (cnd (r != (0 : Int)) (k != (3 : Int)) false) (cnd (k != (9 : Int)) true (decide (r > (3 : Int)))) false) false (cnd (cnd (cnd (cnd (s != (0 : Int)) (k != (3 : Int)) false) (k != (4 : Int)) false) (k != (5 : Int)) false) false (f128_5 k a b r g s m)))
theorem n50_0 (k : Int) (a : Int) (b : Int) (r : Int) (g : Int) (s : Int) (m : Int) : f50_0 k a b r g s m := by
  simp only [f50_0, f127_1, f128_0, f128_1, f128_2, f128_3, f128_4, f176_0, cnd_eq]
  grind (splits := 40) [wrap_i64]
theorem n50_1 (k : Int) (a : Int) (b : Int) (r : Int) (g : Int) (s : Int) (m : Int) : f50_1 k a b r g s m := by
  simp only [f50_1, f127_1, f128_0, f128_1, f128_2, f128_3, f128_4, f176_0, cnd_eq]
  grind (splits := 40) [wrap_i64]
def f50 : List SV → Option (Tr SV)
  | [.agg [.int .i64 k, .int .u64 a, .int .i64 b, .int .i64 r, .int .i64 g, .int .i64 s, .int .u64 m]] => some (Tr.leaf (SV.bool (f50_2 k a b r g s m)))
  | _ => none
theorem s50 : Sound Try.prog th 50 (pureC f50) := pure_auto2 (us := us50) (nice := nice128) nok128 20 fun args t h => by
  unfold f50 at h
  split at h
  · rename_i k a b r g s m
    cases h
    refine ⟨(Tr.need (f50_0 k a b r g s m) (Tr.need (f50_1 k a b r g s m) (Tr.leaf (SV.bool (f50_2 k a b r g s m))))), by kernel_rfl, fun ok => ?_, rfl⟩
    first
    | (simp only [Tr.ok, n50_0, n50_1, true_and, and_true, forall_const, implies_true]; done)
    | (simp only [Tr.ok, n50_0, n50_1, true_and, and_true, forall_const, implies_true]; done)
    | (simpa only [Tr.ok, n50_0, n50_1, true_and, and_true, forall_const, implies_true] using ok; done)
    | (simp only [Tr.ok, n50_0, n50_1, true_and, and_true, forall_const, implies_true] at ok ⊢; grind)
  · cases h
noncomputable def nice50 : List (Nat × CF th.R) := (50, pureC f50) :: nice128
theorem nok50 : NiceOk Try.prog th nice50 := ⟨s50, nok128⟩
end Go.Sx.M

namespace Go.Sx.M
open Go Go.Sx Go.Proofs Go.RowKit
def us160 : List Un := [⟨173, [(2, 6)], [6]⟩]
def f160_0 (k : Int) (a : Int) (b : Int) (r : Int) (g : Int) (s : Int) (m : Int) : Prop := (true = true → (4 : Int) ≤ (4611686018427387904 : Int)) ∧ (true = true → (10 : Int) ≤ (4611686018427387904 : Int)) ∧ (true = true → (13 : Int) ≤ (4611686018427387904 : Int)) ∧ (true = true → (19 : Int) ≤ (4611686018427387904 : Int))
def f160_1 (k : Int) (a : Int) (b : Int) (r : Int) (g : Int) (s : Int) (m : Int) : Prop := (true = true → (32 : Int) ≠ (0 : Int)) ∧ (true = true → (35 : Int) ≤ (4611686018427387904 : Int))
def f160_2 (k : Int) (a : Int) (b : Int) (r : Int) (g : Int) (s : Int) (m : Int) : Int := IntKind.u64.wrap (IntKind.u64.wrap (IntKind.u64.wrap (IntKind.u64.wrap (IntKind.u64.wrap (IntKind.u64.wrap k + IntKind.u64.wrap (IntKind.u64.wrap b * (16 : Int))) + IntKind.u64.wrap (IntKind.u64.wrap r * (1024 : Int))) + IntKind.u64.wrap (IntKind.u64.wrap g * (8192 : Int))) + IntKind.u64.wrap (IntKind.u64.wrap s * (524288 : Int))) + IntKind.u64.wrap (IntKind.u64.wrap (a.tdiv (32 : Int)) * (34359738368 : Int)))
theorem n160_0 (k : Int) (a : Int) (b : Int) (r : Int) (g : Int) (s : Int) (m : Int) : f160_0 k a b r g s m := by
  simp only [f160_0, cnd_eq]
  grind (splits := 40)
theorem n160_1 (k : Int) (a : Int) (b : Int) (r : Int) (g : Int) (s : Int) (m : Int) : f160_1 k a b r g s m := by
  simp only [f160_1, cnd_eq]
  grind (splits := 40)
def f160 : List SV → Option (Tr SV)
  | [.agg [.int .i64 k, .int .u64 a, .int .i64 b, .int .i64 r, .int .i64 g, .int .i64 s, .int .u64 m]] => some (Tr.leaf (SV.int .u64 (f160_2 k a b r g s m)))
  | _ => none
theorem s160 : Sound Try.prog th 160 (pureC f160) := pure_auto2 (us := us160) (nice := nice50) nok50 20 fun args t h => by
  unfold f160 at h
  split at h
  · rename_i k a b r g s m
    cases h
    refine ⟨(Tr.need (f160_0 k a b r g s m) (Tr.need (f160_1 k a b r g s m) (Tr.leaf (SV.int .u64 (f160_2 k a b r g s m))))), by kernel_rfl, fun ok => ?_, rfl⟩
    first
    | (simp only [Tr.ok, n160_0, n160_1, true_and, and_true, forall_const, implies_true]; done)
    | (simp only [Tr.ok, n160_0, n160_1, true_and, and_true, forall_const, implies_true]; done)
    | (simpa only [Tr.ok, n160_0, n160_1, true_and, and_true, forall_const, implies_true] using ok; done)
    | (simp only [Tr.ok, n160_0, n160_1, true_and, and_true, forall_const, implies_true] at ok ⊢; grind)
  · cases h
noncomputable def nice160 : List (Nat × CF th.R) := (160, pureC f160) :: nice50
theorem nok160 : NiceOk Try.prog th nice160 := ⟨s160, nok50⟩
end Go.Sx.M

namespace Go.Sx.M
open Go Go.Sx Go.Proofs Go.RowKit
def us25 : List Un := [⟨173, [(2, 6)], [6]⟩]
def f25_0 (k : Int) (b : Int) : Int := cnd (cnd (k == (1 : Int)) (cnd (decide (b ≥ (5 : Int))) (decide (b ≤ (32 : Int))) false) false) b (cnd (k == (1 : Int)) (-2 : Int) (cnd (cnd (k == (2 : Int)) (cnd (decide (b ≥ (1 : Int))) (decide (b ≤ (12 : Int))) false) false) (IntKind.i64.wrap (b + (5 : Int))) (cnd (k == (2 : Int)) (-2 : Int) (cnd (cnd (k == (3 : Int)) (cnd (cnd (b == (12 : Int)) true (b == (21 : Int))) true (b == (30 : Int))) false) b (cnd (k == (3 : Int)) (-2 : Int) (cnd (cnd (k == (9 : Int)) (5 : Int) (cnd (k == (8 : Int)) (7 : Int) (cnd (cnd (k == (4 : Int)) true (k == (5 : Int))) (12 : Int) (0 : Int))) == (0 : Int)) (-1 : Int) (cnd (b != (0 : Int)) (-2 : Int) (cnd (k == (9 : Int)) (5 : Int) (cnd (k == (8 : Int)) (7 : Int) (cnd (cnd (k == (4 : Int)) true (k == (5 : Int))) (12 : Int) (0 : Int)))))))))))
def f25 : List SV → Option (Tr SV)
  | [.int .i64 k, .int .i64 b] => some (Tr.leaf (SV.int .i64 (f25_0 k b)))
  | _ => none
theorem s25 : Sound Try.prog th 25 (pureC f25) := pure_auto (us := us25) (nice := nice160) nok160 20 fun args t h => by
  unfold f25 at h
  split at h
  · cases h; kernel_rfl
  · cases h
theorem b25 (k b : Int) : f25_0 k b ≤ 63 := by
  simp only [f25_0, cnd_eq]
  grind (splits := 40) [wrap_i64]
noncomputable def nice25 : List (Nat × CF th.R) := (25, pureC f25) :: nice160
theorem nok25 : NiceOk Try.prog th nice25 := ⟨s25, nok160⟩
end Go.Sx.M

namespace Go.Sx.M
open Go Go.Sx Go.Proofs Go.RowKit
def us191 : List Un := [⟨173, [(2, 6)], [6]⟩]
def f191_0 (k : Int) (b : Int) : Int := cnd (cnd (k == (1 : Int)) (k == (1 : Int)) (k == (2 : Int))) k (cnd (k == (3 : Int)) k (cnd (cnd (k == (9 : Int)) false (cnd (k == (8 : Int)) false (cnd (cnd (k == (4 : Int)) (k == (4 : Int)) (k == (5 : Int))) false true))) (0 : Int) (cnd (b != (0 : Int)) (cnd (k == (9 : Int)) k (cnd (k == (8 : Int)) k k)) (cnd (k == (9 : Int)) k (cnd (k == (8 : Int)) k k)))))
def f191_1 (k : Int) (b : Int) : Int := cnd (cnd (k == (1 : Int)) (k == (1 : Int)) (k == (2 : Int))) (0 : Int) (cnd (k == (3 : Int)) (0 : Int) (cnd (cnd (k == (9 : Int)) false (cnd (k == (8 : Int)) false (cnd (cnd (k == (4 : Int)) (k == (4 : Int)) (k == (5 : Int))) false true))) (0 : Int) (cnd (b != (0 : Int)) (cnd (k == (9 : Int)) (0 : Int) (cnd (k == (8 : Int)) (0 : Int) (0 : Int))) (cnd (k == (9 : Int)) (0 : Int) (cnd (k == (8 : Int)) (0 : Int) (0 : Int))))))
def f191_2 (k : Int) (b : Int) : Int := cnd (cnd (k == (1 : Int)) (k == (1 : Int)) (k == (2 : Int))) b (cnd (k == (3 : Int)) b (cnd (cnd (k == (9 : Int)) false (cnd (k == (8 : Int)) false (cnd (cnd (k == (4 : Int)) (k == (4 : Int)) (k == (5 : Int))) false true))) (0 : Int) (cnd (b != (0 : Int)) (-1 : Int) (cnd (k == (9 : Int)) (5 : Int) (cnd (k == (8 : Int)) (7 : Int) (12 : Int))))))
def f191_3 (k : Int) (b : Int) : Int := cnd (cnd (k == (1 : Int)) (k == (1 : Int)) (k == (2 : Int))) (0 : Int) (cnd (k == (3 : Int)) (7 : Int) (cnd (cnd (k == (9 : Int)) false (cnd (k == (8 : Int)) false (cnd (cnd (k == (4 : Int)) (k == (4 : Int)) (k == (5 : Int))) false true))) (0 : Int) (cnd (b != (0 : Int)) (cnd (k == (9 : Int)) (3 : Int) (cnd (k == (8 : Int)) (0 : Int) (0 : Int))) (cnd (k == (9 : Int)) (3 : Int) (cnd (k == (8 : Int)) (0 : Int) (0 : Int))))))
def f191_4 (k : Int) (b : Int) : Bool := cnd (cnd (k == (1 : Int)) (k == (1 : Int)) (k == (2 : Int))) true (cnd (k == (3 : Int)) true (cnd (cnd (k == (9 : Int)) false (cnd (k == (8 : Int)) false (cnd (cnd (k == (4 : Int)) (k == (4 : Int)) (k == (5 : Int))) false true))) false true))
def f191 : List SV → Option (Tr SV)
  | [.int .i64 k, .int .i64 b] => some (Tr.leaf (SV.tup [SV.agg [SV.int .i64 (f191_0 k b), SV.int .u64 (f191_1 k b), SV.int .i64 (f191_2 k b), SV.int .i64 (f191_3 k b), SV.int .i64 (f191_1 k b), SV.int .i64 (f191_1 k b), SV.int .u64 (f191_1 k b)], SV.bool (f191_4 k b)]))
  | _ => none
theorem s191 : Sound Try.prog th 191 (pureC f191) := pure_auto (us := us191) (nice := nice25) nok25 20 fun args t h => by
  unfold f191 at h
  split at h
  · cases h; kernel_rfl
  · cases h
noncomputable def nice191 : List (Nat × CF th.R) := (191, pureC f191) :: nice25
theorem nok191 : NiceOk Try.prog th nice191 := ⟨s191, nok25⟩
end Go.Sx.M

namespace Go.Sx.M
open Go Go.Sx Go.Proofs Go.RowKit
def us161 : List Un := [⟨173, [(2, 6)], [6]⟩]
def f161_0 (k : Int) (b : Int) : Int := cnd (!f191_4 k b) (f191_0 k b) (cnd (!f45_1 (f191_0 k b) (f191_1 k b) (f191_2 k b) (f191_3 k b) (f191_1 k b) (f191_1 k b) (f191_1 k b)) (f191_0 k b) (f191_0 k b))
def f161_1 (k : Int) (b : Int) : Int := cnd (!f191_4 k b) (f191_1 k b) (cnd (!f45_1 (f191_0 k b) (f191_1 k b) (f191_2 k b) (f191_3 k b) (f191_1 k b) (f191_1 k b) (f191_1 k b)) (f191_1 k b) (f191_1 k b))
def f161_2 (k : Int) (b : Int) : Int := cnd (!f191_4 k b) (f191_2 k b) (cnd (!f45_1 (f191_0 k b) (f191_1 k b) (f191_2 k b) (f191_3 k b) (f191_1 k b) (f191_1 k b) (f191_1 k b)) (f191_2 k b) (f191_2 k b))
def f161_3 (k : Int) (b : Int) : Int := cnd (!f191_4 k b) (f191_3 k b) (cnd (!f45_1 (f191_0 k b) (f191_1 k b) (f191_2 k b) (f191_3 k b) (f191_1 k b) (f191_1 k b) (f191_1 k b)) (f191_3 k b) (f191_3 k b))
def f161_4 (k : Int) (b : Int) : Int := cnd (!f191_4 k b) (20 : Int) (cnd (!f45_1 (f191_0 k b) (f191_1 k b) (f191_2 k b) (f191_3 k b) (f191_1 k b) (f191_1 k b) (f191_1 k b)) (11 : Int) (0 : Int))
def f161 : List SV → Option (Tr SV)
  | [.int .i64 k, .int .i64 b] => some (Tr.leaf (SV.tup [SV.agg [SV.int .i64 (f161_0 k b), SV.int .u64 (f161_1 k b), SV.int .i64 (f161_2 k b), SV.int .i64 (f161_3 k b), SV.int .i64 (f161_1 k b), SV.int .i64 (f161_1 k b), SV.int .u64 (f161_1 k b)], SV.int .i64 (f161_4 k b)]))
  | _ => none
theorem s161 : Sound Try.prog th 161 (pureC f161) := pure_auto (us := us161) (nice := nice191) nok191 20 fun args t h => by
  unfold f161 at h
  split at h
  · cases h; kernel_rfl
  · cases h
noncomputable def nice161 : List (Nat × CF th.R) := (161, pureC f161) :: nice191
theorem nok161 : NiceOk Try.prog th nice161 := ⟨s161, nok191⟩
end Go.Sx.M

namespace Go.Sx.M
open Go Go.Sx Go.Proofs Go.RowKit
def us95 : List Un := [⟨173, [(2, 6)], [6]⟩]
def f95_0 (k : Int) (b : Int) (n : Int) : Prop := (f161_4 k b != (0 : Int)) = false → cnd (decide (n < (1 : Int))) true (decide (n > (64 : Int))) = false → (0 : Int) ≤ f162_0 (f161_0 k b) (f161_1 k b) (f161_2 k b) (f161_3 k b) (f161_1 k b) (f161_1 k b) (f161_1 k b)
def f95_1 (k : Int) (b : Int) (n : Int) : Int := cnd (f161_4 k b != (0 : Int)) (0 : Int) (cnd (cnd (decide (n < (1 : Int))) true (decide (n > (64 : Int)))) (0 : Int) (IntKind.u64.wrap (IntKind.u64.wrap n * (2 : Int) ^ Min.min (f162_0 (f161_0 k b) (f161_1 k b) (f161_2 k b) (f161_3 k b) (f161_1 k b) (f161_1 k b) (f161_1 k b)).toNat IntKind.u64.bits)))
def f95_2 (k : Int) (b : Int) (n : Int) : Int := cnd (f161_4 k b != (0 : Int)) (f161_4 k b) (cnd (cnd (decide (n < (1 : Int))) true (decide (n > (64 : Int)))) (12 : Int) (0 : Int))
def f95 : List SV → Option (Tr SV)
  | [.int .i64 k, .int .i64 b, .int .i64 n] => some (Tr.need (f95_0 k b n) (Tr.leaf (SV.tup [SV.int .u64 (f95_1 k b n), SV.int .i64 (f95_2 k b n)])))
  | _ => none
theorem s95 : Sound Try.prog th 95 (pureC f95) := pure_auto (us := us95) (nice := nice161) nok161 20 fun args t h => by
  unfold f95 at h
  split at h
  · cases h; kernel_rfl
  · cases h
noncomputable def nice95 : List (Nat × CF th.R) := (95, pureC f95) :: nice161
theorem nok95 : NiceOk Try.prog th nice95 := ⟨s95, nok161⟩
end Go.Sx.M

namespace Go.Sx.M
open Go Go.Sx Go.Proofs Go.RowKit
def us97 : List Un := [⟨173, [(2, 6)], [6]⟩]
def f97_0 (k : Int) (b : Int) : Int := cnd (f161_4 k b != (0 : Int)) (0 : Int) (f162_0 (f161_0 k b) (f161_1 k b) (f161_2 k b) (f161_3 k b) (f161_1 k b) (f161_1 k b) (f161_1 k b))
def f97_1 (k : Int) (b : Int) : Bool := cnd (f161_4 k b != (0 : Int)) false true
def f97 : List SV → Option (Tr SV)
  | [.int .i64 k, .int .i64 b] => some (Tr.leaf (SV.tup [SV.int .i64 (f97_0 k b), SV.bool (f97_1 k b)]))
  | _ => none
theorem s97 : Sound Try.prog th 97 (pureC f97) := pure_auto (us := us97) (nice := nice95) nok95 20 fun args t h => by
  unfold f97 at h
  split at h
  · cases h; kernel_rfl
  · cases h
noncomputable def nice97 : List (Nat × CF th.R) := (97, pureC f97) :: nice95
theorem nok97 : NiceOk Try.prog th nice97 := ⟨s97, nok95⟩
end Go.Sx.M

namespace Go.Sx.M
open Go Go.Sx Go.Proofs Go.RowKit
def us106 : List Un := [⟨173, [(2, 6)], [6]⟩]
def sel54 (f : Nat → Bool) (n : Nat) : Bool := ((List.range 64).map f).getD n false
def fill54 (f : Nat → Bool) (lo : Int) : Nat → Nat → Bool
  | 0 => fun _ => false
  | n + 1 => fun j => cnd (Nat.beq (cnt n).toNat j) (sel54 f (IntKind.i64.wrap (lo + cnt n)).toNat) (fill54 f lo n j)
def get54 (f : Nat → Bool) (lo wi : Int) (j : Nat) : Bool := if j < wi.toNat then f (lo.toNat + j) else false
noncomputable def E54 : St th.R → Out th := evCode th Try.prog (fun _ => none) (noLoops th (fun _ => none) (fun _ => false)) (lpAt Try.prog 106 0)
def i54 (w lo wi : Int) (f : Nat → Bool) (d ws : List Nat) (i : Nat) : St th.R :=
  ⟨[some (.int .u64 w), some (.int .i64 lo), some (.int .i64 wi), none, none, none, some (.int .u64 0), some (.ptr 0 0), some (.ptr 1 0), some (.int .i64 (cnt i)), none, none, none, none, none, none, none, none, none, none, none, none, none, none, none, none], [.cells 212 (bl 64 f), .cells 212 (bl 64 (fill54 f lo i))], d, ws⟩
def o54 (lo wi : Int) (f : Nat → Bool) (d ws : List Nat) : St th.R :=
  ⟨[none, none, none, none, none, none, none, none, some (.ptr 1 0), none, none, none, none, none, none, none, none, none, none, none, none, none, none, none, none, none], [.cells 212 (bl 64 f), .cells 212 (bl 64 (get54 f lo wi))], List.range 2 ++ d, List.range 26 ++ ws⟩
def L54 (st : St th.R) : Out th := match st with
  | ⟨[some (.int .u64 w), some (.int .i64 lo), some (.int .i64 wi), none, none, none, some (.int .u64 z), some (.ptr 0 0), some (.ptr 1 0), some (.int .i64 i), t10, t11, none, none, none, none, none, none, none, none, none, none, none, none, none, none], [.cells 212 l, .cells 212 m], d, ws⟩ =>
    some (.need ((z = 0 ∧ i = 0 ∧ l = bl 64 (fOf72 l) ∧ m = bl 64 (fun _ => false)) ∧ 0 ≤ lo ∧ 0 ≤ wi ∧ lo + wi ≤ 64) (.leaf (.exit 0, o54 lo wi (fOf72 l) d ws)))
  | _ => none
theorem fill54_eq (f : Nat → Bool) {lo wi : Int} (h0 : 0 ≤ lo) (h1 : lo + wi ≤ 64) : ∀ (n j : Nat), (n : Int) ≤ wi → fill54 f lo n j = if j < n then f (lo.toNat + j) else false
  | 0, j, _ => by simp [fill54]
  | n + 1, j, h => by
    show cnd (Nat.beq (cnt n).toNat j) (sel54 f (IntKind.i64.wrap (lo + cnt n)).toNat) (fill54 f lo n j) = _
    rw [fill54_eq f h0 h1 n j (by omega), cnt_eq (by omega), wrap_i64 (by omega) (by omega)]
    by_cases e : n = j
    · subst e
      have e2 : (lo + (n : Int)).toNat = lo.toNat + n := by omega
      have e3 : lo.toNat + n < 64 := by omega
      simp [cnd, sel54, e2, List.getD_eq_getElem?_getD, e3]
    · have : Nat.beq ((n : Int).toNat) j = false := by
        cases hb : Nat.beq ((n : Int).toNat) j with
        | false => rfl
        | true => have := Nat.eq_of_beq_eq_true hb; simp at this; exact absurd this e
      rw [this]
      simp only [cnd]
      by_cases h1 : j < n
      · have : j < n + 1 := by omega
        simp [h1, this]
      · have : ¬ j < n + 1 := by omega
        simp [h1, this]
theorem L54_sound : CodeSound th Try.prog (.loop (lpAt Try.prog 106 0)) L54 := by
  intro st t h hok
  unfold L54 at h
  split at h
  · rename_i w lo wi z i t10 t11 l m d ws
    cases h
    obtain ⟨⟨⟨rfl, rfl, hl, rfl⟩, hlo, hwi, hlw⟩, _⟩ := hok
    refine ⟨grow_mk (Nat.le_of_eq (by kernel_rfl)) (by kernel_rfl) (by kernel_rfl) (by kernel_rfl), fun K w0 ρ a' wd Q hr hQ => ?_⟩
    generalize fOf72 l = f at hl hQ
    subst hl
    obtain ⟨ρ1, hp1, hr1⟩ := Wk.blank (T := th) (s := ⟨[some (.int .u64 w), some (.int .i64 lo), some (.int .i64 wi), none, none, none, some (.int .u64 0), some (.ptr 0 0), some (.ptr 1 0), some (.int .i64 0), t10, t11, none, none, none, none, none, none, none, none, none, none, none, none, none, none], [.cells 212 (bl 64 f), .cells 212 (bl 64 (fun _ => false))], d, ws⟩) (s' := i54 w lo wi f d ws 0) [10, 11] (by kernel_rfl) (by kernel_rfl) K w0 ρ a' wd hr
    refine loop_rule (show CodeSound th Try.prog (lpAt Try.prog 106 0) E54 from plain_body (tbl := fun _ => none) (fun _ _ e => by cases e) _) (N := wi.toNat) (I := i54 w lo wi f d ws) (F := o54 lo wi f d ws) (ex := .exit 0) (fun e => by cases e) ?_ ?_ hr1 (fun ρ' a w' hp hr' => hQ ρ' a w' (hp1.trans hp) hr')
    · intro i hi
      have hc := cnt_eq (n := i) (by omega)
      have hwr : IntKind.i64.wrap (lo + cnt i) = lo + i := by rw [hc, wrap_i64 (by omega) (by omega)]
      refine goes_on (c := cnd (decide (cnt i < wi)) false true) [12, 13, 14, 15, 16, 17, 18, 19, 20, 21, 22, 23] (by kernel_rfl) ?_ ?_ (by kernel_rfl) (by kernel_rfl) (by kernel_rfl)
      · have h1 : decide (cnt i < wi) = true := by rw [hc]; simp; omega
        rw [h1]; rfl
      · have e : (rt (ob (E54 (i54 w lo wi f d ws i)))).ok = ((0 ≤ IntKind.i64.wrap (lo + cnt i) ∧ IntKind.i64.wrap (lo + cnt i) < 64) ∧ (IntKind.i64.wrap (lo + cnt i)).toNat < (List.drop 0 (bl 64 f)).length ∧ (0 ≤ cnt i ∧ cnt i < 64) ∧ (cnt i).toNat < (bl 64 (fill54 f lo i)).length ∧ True) := by kernel_rfl
        rw [e, hwr, hc]
        simp [bl]
        omega
    · generalize hN : wi.toNat = N
      have hc := cnt_eq (n := N) (by omega)
      have hf : bl 64 (fill54 f lo N) = bl 64 (get54 f lo wi) := bl_congr fun j hj => by rw [fill54_eq f hlo hlw N j (by omega)]; unfold get54; rw [hN]
      refine goes_out (c := cnd (decide (cnt N < wi)) false true) [0, 1, 2, 6, 7, 9, 12, 13, 14] (by kernel_rfl) ?_ ?_ (by kernel_rfl) (by kernel_rfl) ?_
      · have : decide (cnt N < wi) = false := by rw [hc]; simp; omega
        rw [this]; rfl
      · have e : (lf (ob (E54 (i54 w lo wi f d ws N)))).ok = True := by kernel_rfl
        rw [e]; trivial
      · have e : (lf (ob (E54 (i54 w lo wi f d ws N)))).get.2.heap = [.cells 212 (bl 64 f), .cells 212 (bl 64 (fill54 f lo N))] := by kernel_rfl
        exact (congrArg (fun x => [HO.cells 212 (bl 64 f), HO.cells 212 x]) hf.symm).trans e.symm
  · cases h
def getI (w lo wi : Int) : Int := wordI (get54 (bitI w) lo wi)
def f106 : List SV → Option (Tr SV)
  | [.int .u64 w, .int .i64 lo, .int .i64 wi] => some (.need (0 ≤ lo ∧ 0 ≤ wi ∧ lo + wi ≤ 64) (.leaf (.int .u64 (getI w lo wi))))
  | _ => none
theorem s106 : Sound Try.prog th 106 (pureC f106) := pure_fn (tbl := auto th Try.prog nice97 us106 20) (H := oneLoop 4 L54) (auto_sound nok97 20)
  (oneLoop_ok (by kernel_rfl) (by kernel_rfl) L54_sound) fun args t h hok => by
  unfold f106 at h
  split at h
  · rename_i w lo wi
    cases h
    obtain ⟨⟨h1, h2, h3⟩, _⟩ := hok
    refine ⟨.need (((0 : Int) = 0 ∧ (0 : Int) = 0 ∧ bl 64 (bitI w) = bl 64 (fOf72 (bl 64 (bitI w))) ∧ bl 64 (fun _ => false) = bl 64 (fun _ => false)) ∧ 0 ≤ lo ∧ 0 ≤ wi ∧ lo + wi ≤ 64) (.leaf (.int .u64 (wordI (fun j => ((List.range 64).map (get54 (fOf72 (bl 64 (bitI w))) lo wi)).getD j false)), [], [])), by kernel_rfl, ⟨⟨⟨rfl, rfl, ?_, rfl⟩, h1, h2, h3⟩, trivial⟩, ?_⟩
    · exact bl_congr fun j hj => (fOf72_bl hj).symm
    · have : wordI (fun j => ((List.range 64).map (get54 (fOf72 (bl 64 (bitI w))) lo wi)).getD j false) = getI w lo wi := by
        unfold getI
        refine wordI_congr fun j hj => ?_
        simp only [List.getD_eq_getElem?_getD, List.getElem?_map, List.getElem?_range hj, Option.map_some, Option.getD_some]
        unfold get54
        split
        · rw [fOf72_bl (by omega)]
        · rfl
      exact congrArg (fun x => (SV.int .u64 x, ([] : List (HO th.R)), ([] : List Nat))) this
  · cases h
noncomputable def nice106 : List (Nat × CF th.R) := (106, pureC f106) :: nice97
theorem nok106 : NiceOk Try.prog th nice106 := ⟨s106, nok97⟩
end Go.Sx.M

namespace Go.Sx.M
open Go Go.Sx Go.Proofs Go.RowKit
def us165 : List Un := [⟨173, [(2, 6)], [6]⟩]
def f165_0 (l : Int) (d : Int) : Bool := cnd (cnd (cnd (decide (l ≥ (0 : Int))) (decide (l < (64 : Int))) false) (decide (d ≥ (1 : Int))) false) (decide (d ≤ IntKind.i64.wrap ((64 : Int) - l))) false
def f165 : List SV → Option (Tr SV)
  | [.agg [.int .i64 l, .int .i64 d]] => some (Tr.leaf (SV.bool (f165_0 l d)))
  | _ => none
theorem s165 : Sound Try.prog th 165 (pureC f165) := pure_auto (us := us165) (nice := nice106) nok106 20 fun args t h => by
  unfold f165 at h
  split at h
  · cases h; kernel_rfl
  · cases h
noncomputable def nice165 : List (Nat × CF th.R) := (165, pureC f165) :: nice106
theorem nok165 : NiceOk Try.prog th nice165 := ⟨s165, nok106⟩
end Go.Sx.M

namespace Go.Sx.M
open Go Go.Sx Go.Proofs Go.RowKit
def us209 : List Un := [⟨173, [(2, 6)], [6]⟩]
def f209_0 (l : Int) (d : Int) : Prop := (!f165_0 l d) = false → true = true → (0 : Int) ≤ l
def f209_1 (l : Int) (d : Int) : Int := cnd (!f165_0 l d) (0 : Int) (IntKind.u64.wrap (f123_1 d * (2 : Int) ^ Min.min l.toNat IntKind.u64.bits))
theorem n209_0 (l : Int) (d : Int) : f209_0 l d := by
  simp only [f209_0, f165_0, cnd_eq]
  grind (splits := 40)
def f209 : List SV → Option (Tr SV)
  | [.agg [.int .i64 l, .int .i64 d]] => some (Tr.leaf (SV.int .u64 (f209_1 l d)))
  | _ => none
theorem s209 : Sound Try.prog th 209 (pureC f209) := pure_auto2 (us := us209) (nice := nice165) nok165 20 fun args t h => by
  unfold f209 at h
  split at h
  · rename_i l d
    cases h
    refine ⟨(Tr.need (f209_0 l d) (Tr.leaf (SV.int .u64 (f209_1 l d)))), by kernel_rfl, fun ok => ?_, rfl⟩
    first
    | (simp only [Tr.ok, n209_0, true_and, and_true, forall_const, implies_true]; done)
    | (simp only [Tr.ok, n209_0, true_and, and_true, forall_const, implies_true]; done)
    | (simpa only [Tr.ok, n209_0, true_and, and_true, forall_const, implies_true] using ok; done)
    | (simp only [Tr.ok, n209_0, true_and, and_true, forall_const, implies_true] at ok ⊢; grind)
  · cases h
noncomputable def nice209 : List (Nat × CF th.R) := (209, pureC f209) :: nice165
theorem nok209 : NiceOk Try.prog th nice209 := ⟨s209, nok165⟩
end Go.Sx.M

namespace Go.Sx.M
open Go Go.Sx Go.Proofs Go.RowKit
def us102 : List Un := [⟨173, [(2, 6)], [6]⟩]
def f102_0 (l : Int) (d : Int) (w : Int) : Prop := (!f165_0 l d) = false → true = true → (0 : Int) ≤ l
def f102_1 (l : Int) (d : Int) (w : Int) : Int := cnd (!f165_0 l d) (0 : Int) (Go.bits Go.BinOp.and IntKind.u64 (w.fdiv ((2 : Int) ^ Min.min l.toNat IntKind.u64.bits)) (f123_1 d))
theorem n102_0 (l : Int) (d : Int) (w : Int) : f102_0 l d w := by
  simp only [f102_0, f165_0, cnd_eq]
  grind (splits := 40)
def f102 : List SV → Option (Tr SV)
  | [.agg [.int .i64 l, .int .i64 d], .int .u64 w] => some (Tr.leaf (SV.int .u64 (f102_1 l d w)))
  | _ => none
theorem s102 : Sound Try.prog th 102 (pureC f102) := pure_auto2 (us := us102) (nice := nice209) nok209 20 fun args t h => by
  unfold f102 at h
  split at h
  · rename_i l d w
    cases h
    refine ⟨(Tr.need (f102_0 l d w) (Tr.leaf (SV.int .u64 (f102_1 l d w)))), by kernel_rfl, fun ok => ?_, rfl⟩
    first
    | (simp only [Tr.ok, n102_0, true_and, and_true, forall_const, implies_true]; done)
    | (simp only [Tr.ok, n102_0, true_and, and_true, forall_const, implies_true]; done)
    | (simpa only [Tr.ok, n102_0, true_and, and_true, forall_const, implies_true] using ok; done)
    | (simp only [Tr.ok, n102_0, true_and, and_true, forall_const, implies_true] at ok ⊢; grind)
  · cases h
noncomputable def nice102 : List (Nat × CF th.R) := (102, pureC f102) :: nice209
theorem nok102 : NiceOk Try.prog th nice102 := ⟨s102, nok209⟩
end Go.Sx.M

namespace Go.Sx.M
open Go Go.Sx Go.Proofs Go.RowKit
def us192 : List Un := [⟨173, [(2, 6)], [6]⟩]
def f192_0 (l : Int) (d : Int) (w : Int) (v : Int) : Prop := (!f165_0 l d) = false → (Go.bits Go.BinOp.andNot IntKind.u64 v (f123_1 d) != (0 : Int)) = false → true = true → (0 : Int) ≤ l
def f192_1 (l : Int) (d : Int) (w : Int) (v : Int) : Int := cnd (!f165_0 l d) (0 : Int) (cnd (Go.bits Go.BinOp.andNot IntKind.u64 v (f123_1 d) != (0 : Int)) (0 : Int) (Go.bits Go.BinOp.or IntKind.u64 (Go.bits Go.BinOp.andNot IntKind.u64 w (f209_1 l d)) (IntKind.u64.wrap (v * (2 : Int) ^ Min.min l.toNat IntKind.u64.bits))))
def f192_2 (l : Int) (d : Int) (w : Int) (v : Int) : Int := cnd (!f165_0 l d) (10 : Int) (cnd (Go.bits Go.BinOp.andNot IntKind.u64 v (f123_1 d) != (0 : Int)) (11 : Int) (0 : Int))
theorem n192_0 (l : Int) (d : Int) (w : Int) (v : Int) : f192_0 l d w v := by
  simp only [f192_0, f165_0, cnd_eq]
  grind (splits := 40)
def f192 : List SV → Option (Tr SV)
  | [.agg [.int .i64 l, .int .i64 d], .int .u64 w, .int .u64 v] => some (Tr.leaf (SV.tup [SV.int .u64 (f192_1 l d w v), SV.int .i64 (f192_2 l d w v)]))
  | _ => none
theorem s192 : Sound Try.prog th 192 (pureC f192) := pure_auto2 (us := us192) (nice := nice102) nok102 20 fun args t h => by
  unfold f192 at h
  split at h
  · rename_i l d w v
    cases h
    refine ⟨(Tr.need (f192_0 l d w v) (Tr.leaf (SV.tup [SV.int .u64 (f192_1 l d w v), SV.int .i64 (f192_2 l d w v)]))), by kernel_rfl, fun ok => ?_, rfl⟩
    first
    | (simp only [Tr.ok, n192_0, true_and, and_true, forall_const, implies_true]; done)
    | (simp only [Tr.ok, n192_0, true_and, and_true, forall_const, implies_true]; done)
    | (simpa only [Tr.ok, n192_0, true_and, and_true, forall_const, implies_true] using ok; done)
    | (simp only [Tr.ok, n192_0, true_and, and_true, forall_const, implies_true] at ok ⊢; grind)
  · cases h
noncomputable def nice192 : List (Nat × CF th.R) := (192, pureC f192) :: nice102
theorem nok192 : NiceOk Try.prog th nice192 := ⟨s192, nok102⟩
end Go.Sx.M

namespace Go.Sx.M
open Go Go.Sx Go.Proofs Go.RowKit
def us164 : List Un := [⟨173, [(2, 6)], [6]⟩, ⟨164, [(5, 7)], [15]⟩]
def f164_0 (k : Int) (a : Int) (b : Int) (r : Int) (g : Int) (s : Int) (m : Int) : Prop := (!f45_1 k a b r g s m) = false → (0 : Int) ≤ (5 : Int)
def f164_1 (k : Int) (a : Int) (b : Int) (r : Int) (g : Int) (s : Int) (m : Int) : Prop := (!f45_1 k a b r g s m) = false → ∀ (i : Nat), scpL (0:Nat) (rowEl (6 : Nat) (nat_lit 2 + (1 : Nat)) (setMany (setMany (setMany (setMany (setMany (setMany (List.map (fun i => [SV.int IntKind.i64 (0 : Int), SV.int IntKind.i64 (0 : Int), SV.int IntKind.u64 (0 : Int)].getD (i % (3 : Nat)) Inhabited.default) (List.range ((6 : Nat) * (nat_lit 2 + (1 : Nat))))) ((0:Nat) * (nat_lit 2 + (1 : Nat))) (SV.agg (setMany (setMany [SV.int IntKind.i64 (0 : Int), SV.int IntKind.i64 (0 : Int), SV.int IntKind.u64 (0 : Int)] (Go.Field.mk "Field" (147 : Nat) (0:Nat) true "" "" (0:Nat)).offset (SV.agg (setMany (setMany [SV.int IntKind.i64 (0 : Int), SV.int IntKind.i64 (0 : Int)] (Go.Field.mk "Low" (3 : Nat) (0:Nat) false "" "" (0:Nat)).offset (SV.int IntKind.i64 (0 : Int)).cells) (Go.Field.mk "Wide" (3 : Nat) (1 : Nat) false "" "" (8 : Nat)).offset (SV.int IntKind.i64 (4 : Int)).cells)).cells) (Go.Field.mk "v" (22 : Nat) (2 : Nat) false "" "portreeve/cap" (16 : Nat)).offset (SV.int IntKind.u64 (IntKind.u64.wrap k)).cells)).cells) ((1 : Nat) * (nat_lit 2 + (1 : Nat))) (SV.agg (setMany (setMany [SV.int IntKind.i64 (0 : Int), SV.int IntKind.i64 (0 : Int), SV.int IntKind.u64 (0 : Int)] (Go.Field.mk "Field" (147 : Nat) (0:Nat) true "" "" (0:Nat)).offset (SV.agg (setMany (setMany [SV.int IntKind.i64 (0 : Int), SV.int IntKind.i64 (0 : Int)] (Go.Field.mk "Low" (3 : Nat) (0:Nat) false "" "" (0:Nat)).offset (SV.int IntKind.i64 (4 : Int)).cells) (Go.Field.mk "Wide" (3 : Nat) (1 : Nat) false "" "" (8 : Nat)).offset (SV.int IntKind.i64 (6 : Int)).cells)).cells) (Go.Field.mk "v" (22 : Nat) (2 : Nat) false "" "portreeve/cap" (16 : Nat)).offset (SV.int IntKind.u64 (IntKind.u64.wrap b)).cells)).cells) ((2 : Nat) * (nat_lit 2 + (1 : Nat))) (SV.agg (setMany (setMany [SV.int IntKind.i64 (0 : Int), SV.int IntKind.i64 (0 : Int), SV.int IntKind.u64 (0 : Int)] (Go.Field.mk "Field" (147 : Nat) (0:Nat) true "" "" (0:Nat)).offset (SV.agg (setMany (setMany [SV.int IntKind.i64 (0 : Int), SV.int IntKind.i64 (0 : Int)] (Go.Field.mk "Low" (3 : Nat) (0:Nat) false "" "" (0:Nat)).offset (SV.int IntKind.i64 (10 : Int)).cells) (Go.Field.mk "Wide" (3 : Nat) (1 : Nat) false "" "" (8 : Nat)).offset (SV.int IntKind.i64 (3 : Int)).cells)).cells) (Go.Field.mk "v" (22 : Nat) (2 : Nat) false "" "portreeve/cap" (16 : Nat)).offset (SV.int IntKind.u64 (IntKind.u64.wrap r)).cells)).cells) ((3 : Nat) * (nat_lit 2 + (1 : Nat))) (SV.agg (setMany (setMany [SV.int IntKind.i64 (0 : Int), SV.int IntKind.i64 (0 : Int), SV.int IntKind.u64 (0 : Int)] (Go.Field.mk "Field" (147 : Nat) (0:Nat) true "" "" (0:Nat)).offset (SV.agg (setMany (setMany [SV.int IntKind.i64 (0 : Int), SV.int IntKind.i64 (0 : Int)] (Go.Field.mk "Low" (3 : Nat) (0:Nat) false "" "" (0:Nat)).offset (SV.int IntKind.i64 (13 : Int)).cells) (Go.Field.mk "Wide" (3 : Nat) (1 : Nat) false "" "" (8 : Nat)).offset (SV.int IntKind.i64 (6 : Int)).cells)).cells) (Go.Field.mk "v" (22 : Nat) (2 : Nat) false "" "portreeve/cap" (16 : Nat)).offset (SV.int IntKind.u64 (IntKind.u64.wrap g)).cells)).cells) ((4 : Nat) * (nat_lit 2 + (1 : Nat))) (SV.agg (setMany (setMany [SV.int IntKind.i64 (0 : Int), SV.int IntKind.i64 (0 : Int), SV.int IntKind.u64 (0 : Int)] (Go.Field.mk "Field" (147 : Nat) (0:Nat) true "" "" (0:Nat)).offset (SV.agg (setMany (setMany [SV.int IntKind.i64 (0 : Int), SV.int IntKind.i64 (0 : Int)] (Go.Field.mk "Low" (3 : Nat) (0:Nat) false "" "" (0:Nat)).offset (SV.int IntKind.i64 (19 : Int)).cells) (Go.Field.mk "Wide" (3 : Nat) (1 : Nat) false "" "" (8 : Nat)).offset (SV.int IntKind.i64 (16 : Int)).cells)).cells) (Go.Field.mk "v" (22 : Nat) (2 : Nat) false "" "portreeve/cap" (16 : Nat)).offset (SV.int IntKind.u64 (IntKind.u64.wrap s)).cells)).cells) ((5 : Nat) * (nat_lit 2 + (1 : Nat))) (SV.agg (setMany (setMany [SV.int IntKind.i64 (0 : Int), SV.int IntKind.i64 (0 : Int), SV.int IntKind.u64 (0 : Int)] (Go.Field.mk "Field" (147 : Nat) (0:Nat) true "" "" (0:Nat)).offset (SV.agg (setMany (setMany [SV.int IntKind.i64 (0 : Int), SV.int IntKind.i64 (0 : Int)] (Go.Field.mk "Low" (3 : Nat) (0:Nat) false "" "" (0:Nat)).offset (SV.int IntKind.i64 (35 : Int)).cells) (Go.Field.mk "Wide" (3 : Nat) (1 : Nat) false "" "" (8 : Nat)).offset (SV.int IntKind.i64 (27 : Int)).cells)).cells) (Go.Field.mk "v" (22 : Nat) (2 : Nat) false "" "portreeve/cap" (16 : Nat)).offset (SV.int IntKind.u64 (a.fdiv (32 : Int))).cells)).cells) i) = true
def f164_2 (k : Int) (a : Int) (b : Int) (r : Int) (g : Int) (s : Int) (m : Int) : Prop := (!f45_1 k a b r g s m) = false → (0 : Int) ≤ (0 : Int) ∧ (0 : Int) < (6 : Int)
def f164_3 (k : Int) (a : Int) (b : Int) (r : Int) (g : Int) (s : Int) (m : Int) : Prop := (!f45_1 k a b r g s m) = false → (0:Nat) + Int.toNat (0 : Int) < (6 : Nat)
def f164_4 (k : Int) (a : Int) (b : Int) (r : Int) (g : Int) (s : Int) (m : Int) : Prop := (!f45_1 k a b r g s m) = false → (0 : Int) ≤ (1 : Int) ∧ (1 : Int) < (6 : Int)
def f164_5 (k : Int) (a : Int) (b : Int) (r : Int) (g : Int) (s : Int) (m : Int) : Prop := (!f45_1 k a b r g s m) = false → (0:Nat) + Int.toNat (1 : Int) < (6 : Nat)
def f164_6 (k : Int) (a : Int) (b : Int) (r : Int) (g : Int) (s : Int) (m : Int) : Prop := (!f45_1 k a b r g s m) = false → (0 : Int) ≤ (2 : Int) ∧ (2 : Int) < (6 : Int)
def f164_7 (k : Int) (a : Int) (b : Int) (r : Int) (g : Int) (s : Int) (m : Int) : Prop := (!f45_1 k a b r g s m) = false → (0:Nat) + Int.toNat (2 : Int) < (6 : Nat)
def f164_8 (k : Int) (a : Int) (b : Int) (r : Int) (g : Int) (s : Int) (m : Int) : Prop := (!f45_1 k a b r g s m) = false → (0 : Int) ≤ (3 : Int) ∧ (3 : Int) < (6 : Int)
def f164_9 (k : Int) (a : Int) (b : Int) (r : Int) (g : Int) (s : Int) (m : Int) : Prop := (!f45_1 k a b r g s m) = false → (0:Nat) + Int.toNat (3 : Int) < (6 : Nat)
def f164_10 (k : Int) (a : Int) (b : Int) (r : Int) (g : Int) (s : Int) (m : Int) : Prop := (!f45_1 k a b r g s m) = false → (0 : Int) ≤ (4 : Int) ∧ (4 : Int) < (6 : Int)
def f164_11 (k : Int) (a : Int) (b : Int) (r : Int) (g : Int) (s : Int) (m : Int) : Prop := (!f45_1 k a b r g s m) = false → (0:Nat) + Int.toNat (4 : Int) < (6 : Nat)
def f164_12 (k : Int) (a : Int) (b : Int) (r : Int) (g : Int) (s : Int) (m : Int) : Prop := (!f45_1 k a b r g s m) = false → (0 : Int) ≤ (5 : Int) ∧ (5 : Int) < (6 : Int)
def f164_13 (k : Int) (a : Int) (b : Int) (r : Int) (g : Int) (s : Int) (m : Int) : Prop := (!f45_1 k a b r g s m) = false → (0:Nat) + Int.toNat (5 : Int) < (6 : Nat)
def f164_14 (k : Int) (a : Int) (b : Int) (r : Int) (g : Int) (s : Int) (m : Int) : Int := cnd (!f45_1 k a b r g s m) (0 : Int) (f192_1 (35 : Int) (27 : Int) (f192_1 (19 : Int) (16 : Int) (f192_1 (13 : Int) (6 : Int) (f192_1 (10 : Int) (3 : Int) (f192_1 (4 : Int) (6 : Int) (f192_1 (0 : Int) (4 : Int) (0 : Int) (IntKind.u64.wrap k)) (IntKind.u64.wrap b)) (IntKind.u64.wrap r)) (IntKind.u64.wrap g)) (IntKind.u64.wrap s)) (a.fdiv (32 : Int)))
def f164_15 (k : Int) (a : Int) (b : Int) (r : Int) (g : Int) (s : Int) (m : Int) : Int := cnd (!f45_1 k a b r g s m) (0 : Int) m
def f164_16 (k : Int) (a : Int) (b : Int) (r : Int) (g : Int) (s : Int) (m : Int) : Int := cnd (!f45_1 k a b r g s m) (10 : Int) (0 : Int)
theorem n164_0 (k : Int) (a : Int) (b : Int) (r : Int) (g : Int) (s : Int) (m : Int) : f164_0 k a b r g s m := by
  simp only [f164_0, cnd_eq]
  grind (splits := 40)
theorem n164_1 (k : Int) (a : Int) (b : Int) (r : Int) (g : Int) (s : Int) (m : Int) : f164_1 k a b r g s m := by
  unfold f164_1
  (repeat' first
    | apply And.intro
    | intro _
    | apply scpL_rowSet)
  all_goals first
    | exact scpL_rowEl (by kernel_rfl) _
    | exact scpL_chunk (by kernel_rfl)
    | rfl
    | omega
    | decide
    | decide +kernel
theorem n164_2 (k : Int) (a : Int) (b : Int) (r : Int) (g : Int) (s : Int) (m : Int) : f164_2 k a b r g s m := by
  simp only [f164_2, cnd_eq]
  grind (splits := 40)
theorem n164_3 (k : Int) (a : Int) (b : Int) (r : Int) (g : Int) (s : Int) (m : Int) : f164_3 k a b r g s m := by
  simp only [f164_3, cnd_eq]
  grind (splits := 40)
theorem n164_4 (k : Int) (a : Int) (b : Int) (r : Int) (g : Int) (s : Int) (m : Int) : f164_4 k a b r g s m := by
  simp only [f164_4, cnd_eq]
  grind (splits := 40)
theorem n164_5 (k : Int) (a : Int) (b : Int) (r : Int) (g : Int) (s : Int) (m : Int) : f164_5 k a b r g s m := by
  simp only [f164_5, cnd_eq]
  grind (splits := 40)
theorem n164_6 (k : Int) (a : Int) (b : Int) (r : Int) (g : Int) (s : Int) (m : Int) : f164_6 k a b r g s m := by
  simp only [f164_6, cnd_eq]
  grind (splits := 40)
theorem n164_7 (k : Int) (a : Int) (b : Int) (r : Int) (g : Int) (s : Int) (m : Int) : f164_7 k a b r g s m := by
  simp only [f164_7, cnd_eq]
  grind (splits := 40)
theorem n164_8 (k : Int) (a : Int) (b : Int) (r : Int) (g : Int) (s : Int) (m : Int) : f164_8 k a b r g s m := by
  simp only [f164_8, cnd_eq]
  grind (splits := 40)
theorem n164_9 (k : Int) (a : Int) (b : Int) (r : Int) (g : Int) (s : Int) (m : Int) : f164_9 k a b r g s m := by
  simp only [f164_9, cnd_eq]
  grind (splits := 40)
theorem n164_10 (k : Int) (a : Int) (b : Int) (r : Int) (g : Int) (s : Int) (m : Int) : f164_10 k a b r g s m := by
  simp only [f164_10, cnd_eq]
  grind (splits := 40)
theorem n164_11 (k : Int) (a : Int) (b : Int) (r : Int) (g : Int) (s : Int) (m : Int) : f164_11 k a b r g s m := by
  simp only [f164_11, cnd_eq]
  grind (splits := 40)
theorem n164_12 (k : Int) (a : Int) (b : Int) (r : Int) (g : Int) (s : Int) (m : Int) : f164_12 k a b r g s m := by
  simp only [f164_12, cnd_eq]
  grind (splits := 40)
theorem n164_13 (k : Int) (a : Int) (b : Int) (r : Int) (g : Int) (s : Int) (m : Int) : f164_13 k a b r g s m := by
  simp only [f164_13, cnd_eq]
  grind (splits := 40)
def f164 : List SV → Option (Tr SV)
  | [.agg [.int .i64 k, .int .u64 a, .int .i64 b, .int .i64 r, .int .i64 g, .int .i64 s, .int .u64 m]] => some (Tr.leaf (SV.tup [SV.int .u64 (f164_14 k a b r g s m), SV.int .u64 (f164_15 k a b r g s m), SV.int .i64 (f164_16 k a b r g s m)]))
  | _ => none
theorem s164 : Sound Try.prog th 164 (pureC f164) := pure_auto2 (us := us164) (nice := nice192) nok192 20 fun args t h => by
  unfold f164 at h
  split at h
  · rename_i k a b r g s m
    cases h
    refine ⟨(Tr.need (f164_0 k a b r g s m) (Tr.need (f164_1 k a b r g s m) (Tr.need (f164_2 k a b r g s m) (Tr.need (f164_3 k a b r g s m) (Tr.need (f164_4 k a b r g s m) (Tr.need (f164_5 k a b r g s m) (Tr.need (f164_6 k a b r g s m) (Tr.need (f164_7 k a b r g s m) (Tr.need (f164_8 k a b r g s m) (Tr.need (f164_9 k a b r g s m) (Tr.need (f164_10 k a b r g s m) (Tr.need (f164_11 k a b r g s m) (Tr.need (f164_12 k a b r g s m) (Tr.need (f164_13 k a b r g s m) (Tr.leaf (SV.tup [SV.int .u64 (f164_14 k a b r g s m), SV.int .u64 (f164_15 k a b r g s m), SV.int .i64 (f164_16 k a b r g s m)])))))))))))))))), by kernel_rfl, fun ok => ?_, rfl⟩
    first
    | (simp only [Tr.ok, n164_0, n164_1, n164_2, n164_3, n164_4, n164_5, n164_6, n164_7, n164_8, n164_9, n164_10, n164_11, n164_12, n164_13, true_and, and_true, forall_const, implies_true]; done)
    | (simp only [Tr.ok, n164_0, n164_1, n164_2, n164_3, n164_4, n164_5, n164_6, n164_7, n164_8, n164_9, n164_10, n164_11, n164_12, n164_13, true_and, and_true, forall_const, implies_true]; done)
    | (simpa only [Tr.ok, n164_0, n164_1, n164_2, n164_3, n164_4, n164_5, n164_6, n164_7, n164_8, n164_9, n164_10, n164_11, n164_12, n164_13, true_and, and_true, forall_const, implies_true] using ok; done)
    | (simp only [Tr.ok, n164_0, n164_1, n164_2, n164_3, n164_4, n164_5, n164_6, n164_7, n164_8, n164_9, n164_10, n164_11, n164_12, n164_13, true_and, and_true, forall_const, implies_true] at ok ⊢; grind)
  · cases h
noncomputable def nice164 : List (Nat × CF th.R) := (164, pureC f164) :: nice192
theorem nok164 : NiceOk Try.prog th nice164 := ⟨s164, nok192⟩
end Go.Sx.M

namespace Go.Sx.M
open Go Go.Sx Go.Proofs Go.RowKit
def us100 : List Un := [⟨173, [(2, 6)], [6]⟩, ⟨164, [(5, 7)], [15]⟩]
def f100_0 (a : Int) (b : Int) : Prop := (0 : Int) ≤ (5 : Int)
def f100_1 (a : Int) (b : Int) : Prop := ∀ (i : Nat), scpL (0:Nat) (rowEl (6 : Nat) (nat_lit 2 + (1 : Nat)) (setMany (setMany (setMany (setMany (setMany (setMany (List.map (fun i => [SV.int IntKind.i64 (0 : Int), SV.int IntKind.i64 (0 : Int), SV.int IntKind.u64 (0 : Int)].getD (i % (3 : Nat)) Inhabited.default) (List.range ((6 : Nat) * (nat_lit 2 + (1 : Nat))))) ((0:Nat) * (nat_lit 2 + (1 : Nat))) (SV.agg (setMany (setMany [SV.int IntKind.i64 (0 : Int), SV.int IntKind.i64 (0 : Int), SV.int IntKind.u64 (0 : Int)] (Go.Field.mk "Field" (147 : Nat) (0:Nat) true "" "" (0:Nat)).offset (SV.agg (setMany (setMany [SV.int IntKind.i64 (0 : Int), SV.int IntKind.i64 (0 : Int)] (Go.Field.mk "Low" (3 : Nat) (0:Nat) false "" "" (0:Nat)).offset (SV.int IntKind.i64 (0 : Int)).cells) (Go.Field.mk "Wide" (3 : Nat) (1 : Nat) false "" "" (8 : Nat)).offset (SV.int IntKind.i64 (4 : Int)).cells)).cells) (Go.Field.mk "v" (22 : Nat) (2 : Nat) false "" "portreeve/cap" (16 : Nat)).offset (SV.int IntKind.u64 (0 : Int)).cells)).cells) ((1 : Nat) * (nat_lit 2 + (1 : Nat))) (SV.agg (setMany (setMany [SV.int IntKind.i64 (0 : Int), SV.int IntKind.i64 (0 : Int), SV.int IntKind.u64 (0 : Int)] (Go.Field.mk "Field" (147 : Nat) (0:Nat) true "" "" (0:Nat)).offset (SV.agg (setMany (setMany [SV.int IntKind.i64 (0 : Int), SV.int IntKind.i64 (0 : Int)] (Go.Field.mk "Low" (3 : Nat) (0:Nat) false "" "" (0:Nat)).offset (SV.int IntKind.i64 (4 : Int)).cells) (Go.Field.mk "Wide" (3 : Nat) (1 : Nat) false "" "" (8 : Nat)).offset (SV.int IntKind.i64 (6 : Int)).cells)).cells) (Go.Field.mk "v" (22 : Nat) (2 : Nat) false "" "portreeve/cap" (16 : Nat)).offset (SV.int IntKind.u64 (0 : Int)).cells)).cells) ((2 : Nat) * (nat_lit 2 + (1 : Nat))) (SV.agg (setMany (setMany [SV.int IntKind.i64 (0 : Int), SV.int IntKind.i64 (0 : Int), SV.int IntKind.u64 (0 : Int)] (Go.Field.mk "Field" (147 : Nat) (0:Nat) true "" "" (0:Nat)).offset (SV.agg (setMany (setMany [SV.int IntKind.i64 (0 : Int), SV.int IntKind.i64 (0 : Int)] (Go.Field.mk "Low" (3 : Nat) (0:Nat) false "" "" (0:Nat)).offset (SV.int IntKind.i64 (10 : Int)).cells) (Go.Field.mk "Wide" (3 : Nat) (1 : Nat) false "" "" (8 : Nat)).offset (SV.int IntKind.i64 (3 : Int)).cells)).cells) (Go.Field.mk "v" (22 : Nat) (2 : Nat) false "" "portreeve/cap" (16 : Nat)).offset (SV.int IntKind.u64 (0 : Int)).cells)).cells) ((3 : Nat) * (nat_lit 2 + (1 : Nat))) (SV.agg (setMany (setMany [SV.int IntKind.i64 (0 : Int), SV.int IntKind.i64 (0 : Int), SV.int IntKind.u64 (0 : Int)] (Go.Field.mk "Field" (147 : Nat) (0:Nat) true "" "" (0:Nat)).offset (SV.agg (setMany (setMany [SV.int IntKind.i64 (0 : Int), SV.int IntKind.i64 (0 : Int)] (Go.Field.mk "Low" (3 : Nat) (0:Nat) false "" "" (0:Nat)).offset (SV.int IntKind.i64 (13 : Int)).cells) (Go.Field.mk "Wide" (3 : Nat) (1 : Nat) false "" "" (8 : Nat)).offset (SV.int IntKind.i64 (6 : Int)).cells)).cells) (Go.Field.mk "v" (22 : Nat) (2 : Nat) false "" "portreeve/cap" (16 : Nat)).offset (SV.int IntKind.u64 (0 : Int)).cells)).cells) ((4 : Nat) * (nat_lit 2 + (1 : Nat))) (SV.agg (setMany (setMany [SV.int IntKind.i64 (0 : Int), SV.int IntKind.i64 (0 : Int), SV.int IntKind.u64 (0 : Int)] (Go.Field.mk "Field" (147 : Nat) (0:Nat) true "" "" (0:Nat)).offset (SV.agg (setMany (setMany [SV.int IntKind.i64 (0 : Int), SV.int IntKind.i64 (0 : Int)] (Go.Field.mk "Low" (3 : Nat) (0:Nat) false "" "" (0:Nat)).offset (SV.int IntKind.i64 (19 : Int)).cells) (Go.Field.mk "Wide" (3 : Nat) (1 : Nat) false "" "" (8 : Nat)).offset (SV.int IntKind.i64 (16 : Int)).cells)).cells) (Go.Field.mk "v" (22 : Nat) (2 : Nat) false "" "portreeve/cap" (16 : Nat)).offset (SV.int IntKind.u64 (0 : Int)).cells)).cells) ((5 : Nat) * (nat_lit 2 + (1 : Nat))) (SV.agg (setMany (setMany [SV.int IntKind.i64 (0 : Int), SV.int IntKind.i64 (0 : Int), SV.int IntKind.u64 (0 : Int)] (Go.Field.mk "Field" (147 : Nat) (0:Nat) true "" "" (0:Nat)).offset (SV.agg (setMany (setMany [SV.int IntKind.i64 (0 : Int), SV.int IntKind.i64 (0 : Int)] (Go.Field.mk "Low" (3 : Nat) (0:Nat) false "" "" (0:Nat)).offset (SV.int IntKind.i64 (35 : Int)).cells) (Go.Field.mk "Wide" (3 : Nat) (1 : Nat) false "" "" (8 : Nat)).offset (SV.int IntKind.i64 (27 : Int)).cells)).cells) (Go.Field.mk "v" (22 : Nat) (2 : Nat) false "" "portreeve/cap" (16 : Nat)).offset (SV.int IntKind.u64 (0 : Int)).cells)).cells) i) = true
def f100_2 (a : Int) (b : Int) : Prop := (true = true → (0 : Int) ≤ (0 : Int) ∧ (0 : Int) < (6 : Int)) ∧ (true = true → (0:Nat) + Int.toNat (0 : Int) < (6 : Nat)) ∧ (true = true → (0 : Int) ≤ (5 : Int) ∧ (5 : Int) < (6 : Int)) ∧ (true = true → (0:Nat) + Int.toNat (5 : Int) < (6 : Nat)) ∧ (true = true → (0 : Int) ≤ (5 : Int)) ∧ (true = true → (0 : Int) ≤ (1 : Int) ∧ (1 : Int) < (6 : Int)) ∧ (true = true → (0:Nat) + Int.toNat (1 : Int) < (6 : Nat)) ∧ (true = true → (0 : Int) ≤ (2 : Int) ∧ (2 : Int) < (6 : Int)) ∧ (true = true → (0:Nat) + Int.toNat (2 : Int) < (6 : Nat)) ∧ (true = true → (0 : Int) ≤ (3 : Int) ∧ (3 : Int) < (6 : Int)) ∧ (true = true → (0:Nat) + Int.toNat (3 : Int) < (6 : Nat)) ∧ (true = true → (0 : Int) ≤ (4 : Int) ∧ (4 : Int) < (6 : Int)) ∧ (true = true → (0:Nat) + Int.toNat (4 : Int) < (6 : Nat))
def f100_3 (a : Int) (b : Int) : Int := cnd (cnd (f164_16 (IntKind.i64.wrap (f102_1 (0 : Int) (4 : Int) a)) (IntKind.u64.wrap (f102_1 (35 : Int) (27 : Int) a * (32 : Int))) (IntKind.i64.wrap (f102_1 (4 : Int) (6 : Int) a)) (IntKind.i64.wrap (f102_1 (10 : Int) (3 : Int) a)) (IntKind.i64.wrap (f102_1 (13 : Int) (6 : Int) a)) (IntKind.i64.wrap (f102_1 (19 : Int) (16 : Int) a)) b != (0 : Int)) true (f164_14 (IntKind.i64.wrap (f102_1 (0 : Int) (4 : Int) a)) (IntKind.u64.wrap (f102_1 (35 : Int) (27 : Int) a * (32 : Int))) (IntKind.i64.wrap (f102_1 (4 : Int) (6 : Int) a)) (IntKind.i64.wrap (f102_1 (10 : Int) (3 : Int) a)) (IntKind.i64.wrap (f102_1 (13 : Int) (6 : Int) a)) (IntKind.i64.wrap (f102_1 (19 : Int) (16 : Int) a)) b != a)) (0 : Int) (IntKind.i64.wrap (f102_1 (0 : Int) (4 : Int) a))
def f100_4 (a : Int) (b : Int) : Int := cnd (cnd (f164_16 (IntKind.i64.wrap (f102_1 (0 : Int) (4 : Int) a)) (IntKind.u64.wrap (f102_1 (35 : Int) (27 : Int) a * (32 : Int))) (IntKind.i64.wrap (f102_1 (4 : Int) (6 : Int) a)) (IntKind.i64.wrap (f102_1 (10 : Int) (3 : Int) a)) (IntKind.i64.wrap (f102_1 (13 : Int) (6 : Int) a)) (IntKind.i64.wrap (f102_1 (19 : Int) (16 : Int) a)) b != (0 : Int)) true (f164_14 (IntKind.i64.wrap (f102_1 (0 : Int) (4 : Int) a)) (IntKind.u64.wrap (f102_1 (35 : Int) (27 : Int) a * (32 : Int))) (IntKind.i64.wrap (f102_1 (4 : Int) (6 : Int) a)) (IntKind.i64.wrap (f102_1 (10 : Int) (3 : Int) a)) (IntKind.i64.wrap (f102_1 (13 : Int) (6 : Int) a)) (IntKind.i64.wrap (f102_1 (19 : Int) (16 : Int) a)) b != a)) (0 : Int) (IntKind.u64.wrap (f102_1 (35 : Int) (27 : Int) a * (32 : Int)))
def f100_5 (a : Int) (b : Int) : Int := cnd (cnd (f164_16 (IntKind.i64.wrap (f102_1 (0 : Int) (4 : Int) a)) (IntKind.u64.wrap (f102_1 (35 : Int) (27 : Int) a * (32 : Int))) (IntKind.i64.wrap (f102_1 (4 : Int) (6 : Int) a)) (IntKind.i64.wrap (f102_1 (10 : Int) (3 : Int) a)) (IntKind.i64.wrap (f102_1 (13 : Int) (6 : Int) a)) (IntKind.i64.wrap (f102_1 (19 : Int) (16 : Int) a)) b != (0 : Int)) true (f164_14 (IntKind.i64.wrap (f102_1 (0 : Int) (4 : Int) a)) (IntKind.u64.wrap (f102_1 (35 : Int) (27 : Int) a * (32 : Int))) (IntKind.i64.wrap (f102_1 (4 : Int) (6 : Int) a)) (IntKind.i64.wrap (f102_1 (10 : Int) (3 : Int) a)) (IntKind.i64.wrap (f102_1 (13 : Int) (6 : Int) a)) (IntKind.i64.wrap (f102_1 (19 : Int) (16 : Int) a)) b != a)) (0 : Int) (IntKind.i64.wrap (f102_1 (4 : Int) (6 : Int) a))
def f100_6 (a : Int) (b : Int) : Int := cnd (cnd (f164_16 (IntKind.i64.wrap (f102_1 (0 : Int) (4 : Int) a)) (IntKind.u64.wrap (f102_1 (35 : Int) (27 : Int) a * (32 : Int))) (IntKind.i64.wrap (f102_1 (4 : Int) (6 : Int) a)) (IntKind.i64.wrap (f102_1 (10 : Int) (3 : Int) a)) (IntKind.i64.wrap (f102_1 (13 : Int) (6 : Int) a)) (IntKind.i64.wrap (f102_1 (19 : Int) (16 : Int) a)) b != (0 : Int)) true (f164_14 (IntKind.i64.wrap (f102_1 (0 : Int) (4 : Int) a)) (IntKind.u64.wrap (f102_1 (35 : Int) (27 : Int) a * (32 : Int))) (IntKind.i64.wrap (f102_1 (4 : Int) (6 : Int) a)) (IntKind.i64.wrap (f102_1 (10 : Int) (3 : Int) a)) (IntKind.i64.wrap (f102_1 (13 : Int) (6 : Int) a)) (IntKind.i64.wrap (f102_1 (19 : Int) (16 : Int) a)) b != a)) (0 : Int) (IntKind.i64.wrap (f102_1 (10 : Int) (3 : Int) a))
def f100_7 (a : Int) (b : Int) : Int := cnd (cnd (f164_16 (IntKind.i64.wrap (f102_1 (0 : Int) (4 : Int) a)) (IntKind.u64.wrap (f102_1 (35 : Int) (27 : Int) a * (32 : Int))) (IntKind.i64.wrap (f102_1 (4 : Int) (6 : Int) a)) (IntKind.i64.wrap (f102_1 (10 : Int) (3 : Int) a)) (IntKind.i64.wrap (f102_1 (13 : Int) (6 : Int) a)) (IntKind.i64.wrap (f102_1 (19 : Int) (16 : Int) a)) b != (0 : Int)) true (f164_14 (IntKind.i64.wrap (f102_1 (0 : Int) (4 : Int) a)) (IntKind.u64.wrap (f102_1 (35 : Int) (27 : Int) a * (32 : Int))) (IntKind.i64.wrap (f102_1 (4 : Int) (6 : Int) a)) (IntKind.i64.wrap (f102_1 (10 : Int) (3 : Int) a)) (IntKind.i64.wrap (f102_1 (13 : Int) (6 : Int) a)) (IntKind.i64.wrap (f102_1 (19 : Int) (16 : Int) a)) b != a)) (0 : Int) (IntKind.i64.wrap (f102_1 (13 : Int) (6 : Int) a))
def f100_8 (a : Int) (b : Int) : Int := cnd (cnd (f164_16 (IntKind.i64.wrap (f102_1 (0 : Int) (4 : Int) a)) (IntKind.u64.wrap (f102_1 (35 : Int) (27 : Int) a * (32 : Int))) (IntKind.i64.wrap (f102_1 (4 : Int) (6 : Int) a)) (IntKind.i64.wrap (f102_1 (10 : Int) (3 : Int) a)) (IntKind.i64.wrap (f102_1 (13 : Int) (6 : Int) a)) (IntKind.i64.wrap (f102_1 (19 : Int) (16 : Int) a)) b != (0 : Int)) true (f164_14 (IntKind.i64.wrap (f102_1 (0 : Int) (4 : Int) a)) (IntKind.u64.wrap (f102_1 (35 : Int) (27 : Int) a * (32 : Int))) (IntKind.i64.wrap (f102_1 (4 : Int) (6 : Int) a)) (IntKind.i64.wrap (f102_1 (10 : Int) (3 : Int) a)) (IntKind.i64.wrap (f102_1 (13 : Int) (6 : Int) a)) (IntKind.i64.wrap (f102_1 (19 : Int) (16 : Int) a)) b != a)) (0 : Int) (IntKind.i64.wrap (f102_1 (19 : Int) (16 : Int) a))
def f100_9 (a : Int) (b : Int) : Int := cnd (cnd (f164_16 (IntKind.i64.wrap (f102_1 (0 : Int) (4 : Int) a)) (IntKind.u64.wrap (f102_1 (35 : Int) (27 : Int) a * (32 : Int))) (IntKind.i64.wrap (f102_1 (4 : Int) (6 : Int) a)) (IntKind.i64.wrap (f102_1 (10 : Int) (3 : Int) a)) (IntKind.i64.wrap (f102_1 (13 : Int) (6 : Int) a)) (IntKind.i64.wrap (f102_1 (19 : Int) (16 : Int) a)) b != (0 : Int)) true (f164_14 (IntKind.i64.wrap (f102_1 (0 : Int) (4 : Int) a)) (IntKind.u64.wrap (f102_1 (35 : Int) (27 : Int) a * (32 : Int))) (IntKind.i64.wrap (f102_1 (4 : Int) (6 : Int) a)) (IntKind.i64.wrap (f102_1 (10 : Int) (3 : Int) a)) (IntKind.i64.wrap (f102_1 (13 : Int) (6 : Int) a)) (IntKind.i64.wrap (f102_1 (19 : Int) (16 : Int) a)) b != a)) (0 : Int) b
def f100_10 (a : Int) (b : Int) : Int := cnd (cnd (f164_16 (IntKind.i64.wrap (f102_1 (0 : Int) (4 : Int) a)) (IntKind.u64.wrap (f102_1 (35 : Int) (27 : Int) a * (32 : Int))) (IntKind.i64.wrap (f102_1 (4 : Int) (6 : Int) a)) (IntKind.i64.wrap (f102_1 (10 : Int) (3 : Int) a)) (IntKind.i64.wrap (f102_1 (13 : Int) (6 : Int) a)) (IntKind.i64.wrap (f102_1 (19 : Int) (16 : Int) a)) b != (0 : Int)) true (f164_14 (IntKind.i64.wrap (f102_1 (0 : Int) (4 : Int) a)) (IntKind.u64.wrap (f102_1 (35 : Int) (27 : Int) a * (32 : Int))) (IntKind.i64.wrap (f102_1 (4 : Int) (6 : Int) a)) (IntKind.i64.wrap (f102_1 (10 : Int) (3 : Int) a)) (IntKind.i64.wrap (f102_1 (13 : Int) (6 : Int) a)) (IntKind.i64.wrap (f102_1 (19 : Int) (16 : Int) a)) b != a)) (10 : Int) (0 : Int)
theorem n100_0 (a : Int) (b : Int) : f100_0 a b := by
  simp only [f100_0, cnd_eq]
  grind (splits := 40)
theorem n100_1 (a : Int) (b : Int) : f100_1 a b := by
  unfold f100_1
  (repeat' first
    | apply And.intro
    | intro _
    | apply scpL_rowSet)
  all_goals first
    | exact scpL_rowEl (by kernel_rfl) _
    | exact scpL_chunk (by kernel_rfl)
    | rfl
    | omega
    | decide
    | decide +kernel
theorem n100_2 (a : Int) (b : Int) : f100_2 a b := by
  simp only [f100_2, cnd_eq]
  grind (splits := 40)
def f100 : List SV → Option (Tr SV)
  | [.int .u64 a, .int .u64 b] => some (Tr.leaf (SV.tup [SV.agg [SV.int .i64 (f100_3 a b), SV.int .u64 (f100_4 a b), SV.int .i64 (f100_5 a b), SV.int .i64 (f100_6 a b), SV.int .i64 (f100_7 a b), SV.int .i64 (f100_8 a b), SV.int .u64 (f100_9 a b)], SV.int .i64 (f100_10 a b)]))
  | _ => none
theorem s100 : Sound Try.prog th 100 (pureC f100) := pure_auto2 (us := us100) (nice := nice164) nok164 20 fun args t h => by
  unfold f100 at h
  split at h
  · rename_i a b
    cases h
    refine ⟨(Tr.need (f100_0 a b) (Tr.need (f100_1 a b) (Tr.need (f100_2 a b) (Tr.leaf (SV.tup [SV.agg [SV.int .i64 (f100_3 a b), SV.int .u64 (f100_4 a b), SV.int .i64 (f100_5 a b), SV.int .i64 (f100_6 a b), SV.int .i64 (f100_7 a b), SV.int .i64 (f100_8 a b), SV.int .u64 (f100_9 a b)], SV.int .i64 (f100_10 a b)]))))), by kernel_rfl, fun ok => ?_, rfl⟩
    first
    | (simp only [Tr.ok, n100_0, n100_1, n100_2, true_and, and_true, forall_const, implies_true]; done)
    | (simp only [Tr.ok, n100_0, n100_1, n100_2, true_and, and_true, forall_const, implies_true]; done)
    | (simpa only [Tr.ok, n100_0, n100_1, n100_2, true_and, and_true, forall_const, implies_true] using ok; done)
    | (simp only [Tr.ok, n100_0, n100_1, n100_2, true_and, and_true, forall_const, implies_true] at ok ⊢; grind)
  · cases h
noncomputable def nice100 : List (Nat × CF th.R) := (100, pureC f100) :: nice164
theorem nok100 : NiceOk Try.prog th nice100 := ⟨s100, nok164⟩
end Go.Sx.M

namespace Go.Sx.M
open Go Go.Sx Go.Proofs Go.RowKit
def us105 : List Un := [⟨173, [(2, 6)], [6]⟩, ⟨164, [(5, 7)], [15]⟩]
def f105_0 (a : Int) (b : Int) : Prop := (0 : Int) ≤ (0 : Int) ∧ (0 : Int) ≤ (4 : Int) ∧ (4 : Int) ≤ (64 : Int)
def f105_1 (a : Int) (b : Int) : Prop := (0 : Int) ≤ (4 : Int) ∧ (0 : Int) ≤ (6 : Int) ∧ (10 : Int) ≤ (64 : Int)
def f105_2 (a : Int) (b : Int) : Prop := (0 : Int) ≤ (10 : Int) ∧ (0 : Int) ≤ (3 : Int) ∧ (13 : Int) ≤ (64 : Int)
def f105_3 (a : Int) (b : Int) : Prop := (0 : Int) ≤ (13 : Int) ∧ (0 : Int) ≤ (6 : Int) ∧ (19 : Int) ≤ (64 : Int)
def f105_4 (a : Int) (b : Int) : Prop := (0 : Int) ≤ (19 : Int) ∧ (0 : Int) ≤ (16 : Int) ∧ (35 : Int) ≤ (64 : Int)
def f105_5 (a : Int) (b : Int) : Prop := (0 : Int) ≤ (35 : Int) ∧ (0 : Int) ≤ (27 : Int) ∧ (62 : Int) ≤ (64 : Int)
def f105_6 (a : Int) (b : Int) : Int := IntKind.i64.wrap (getI a (0 : Int) (4 : Int))
def f105_7 (a : Int) (b : Int) : Int := IntKind.u64.wrap (getI a (35 : Int) (27 : Int) * (32 : Int))
def f105_8 (a : Int) (b : Int) : Int := IntKind.i64.wrap (getI a (4 : Int) (6 : Int))
def f105_9 (a : Int) (b : Int) : Int := IntKind.i64.wrap (getI a (10 : Int) (3 : Int))
def f105_10 (a : Int) (b : Int) : Int := IntKind.i64.wrap (getI a (13 : Int) (6 : Int))
def f105_11 (a : Int) (b : Int) : Int := IntKind.i64.wrap (getI a (19 : Int) (16 : Int))
theorem n105_0 (a : Int) (b : Int) : f105_0 a b := by
  simp only [f105_0, cnd_eq]
  grind (splits := 40)
theorem n105_1 (a : Int) (b : Int) : f105_1 a b := by
  simp only [f105_1, cnd_eq]
  grind (splits := 40)
theorem n105_2 (a : Int) (b : Int) : f105_2 a b := by
  simp only [f105_2, cnd_eq]
  grind (splits := 40)
theorem n105_3 (a : Int) (b : Int) : f105_3 a b := by
  simp only [f105_3, cnd_eq]
  grind (splits := 40)
theorem n105_4 (a : Int) (b : Int) : f105_4 a b := by
  simp only [f105_4, cnd_eq]
  grind (splits := 40)
theorem n105_5 (a : Int) (b : Int) : f105_5 a b := by
  simp only [f105_5, cnd_eq]
  grind (splits := 40)
def f105 : List SV → Option (Tr SV)
  | [.int .u64 a, .int .u64 b] => some (Tr.leaf (SV.agg [SV.int .i64 (f105_6 a b), SV.int .u64 (f105_7 a b), SV.int .i64 (f105_8 a b), SV.int .i64 (f105_9 a b), SV.int .i64 (f105_10 a b), SV.int .i64 (f105_11 a b), SV.int .u64 (b)]))
  | _ => none
theorem s105 : Sound Try.prog th 105 (pureC f105) := pure_auto2 (us := us105) (nice := nice100) nok100 20 fun args t h => by
  unfold f105 at h
  split at h
  · rename_i a b
    cases h
    refine ⟨(Tr.need (f105_0 a b) (Tr.need (f105_1 a b) (Tr.need (f105_2 a b) (Tr.need (f105_3 a b) (Tr.need (f105_4 a b) (Tr.need (f105_5 a b) (Tr.leaf (SV.agg [SV.int .i64 (f105_6 a b), SV.int .u64 (f105_7 a b), SV.int .i64 (f105_8 a b), SV.int .i64 (f105_9 a b), SV.int .i64 (f105_10 a b), SV.int .i64 (f105_11 a b), SV.int .u64 (b)])))))))), by kernel_rfl, fun ok => ?_, rfl⟩
    first
    | (simp only [Tr.ok, n105_0, n105_1, n105_2, n105_3, n105_4, n105_5, true_and, and_true, forall_const, implies_true]; done)
    | (simp only [Tr.ok, n105_0, n105_1, n105_2, n105_3, n105_4, n105_5, true_and, and_true, forall_const, implies_true]; done)
    | (simpa only [Tr.ok, n105_0, n105_1, n105_2, n105_3, n105_4, n105_5, true_and, and_true, forall_const, implies_true] using ok; done)
    | (simp only [Tr.ok, n105_0, n105_1, n105_2, n105_3, n105_4, n105_5, true_and, and_true, forall_const, implies_true] at ok ⊢; grind)
  · cases h
noncomputable def nice105 : List (Nat × CF th.R) := (105, pureC f105) :: nice100
theorem nok105 : NiceOk Try.prog th nice105 := ⟨s105, nok100⟩
end Go.Sx.M

namespace Go.Sx.M
open Go Go.Sx Go.Proofs Go.RowKit
def us122 : List Un := [⟨173, [(2, 6)], [6]⟩, ⟨164, [(5, 7)], [15]⟩]
def f122_0 (a : Int) (b : Int) : Prop := (0 : Int) ≤ b ∧ b < (64 : Int)
def f122_1 (a : Int) (b : Int) : Prop := b.toNat < (64 : Nat)
def f122_2 (a : Int) (b : Int) : Bool := [bitI (IntKind.u64.wrap a) (nat_lit 0), bitI (IntKind.u64.wrap a) (nat_lit 1), bitI (IntKind.u64.wrap a) (nat_lit 2), bitI (IntKind.u64.wrap a) (nat_lit 3), bitI (IntKind.u64.wrap a) (nat_lit 4), bitI (IntKind.u64.wrap a) (nat_lit 5), bitI (IntKind.u64.wrap a) (nat_lit 6), bitI (IntKind.u64.wrap a) (nat_lit 7), bitI (IntKind.u64.wrap a) (nat_lit 8), bitI (IntKind.u64.wrap a) (nat_lit 9), bitI (IntKind.u64.wrap a) (nat_lit 10), bitI (IntKind.u64.wrap a) (nat_lit 11), bitI (IntKind.u64.wrap a) (nat_lit 12), bitI (IntKind.u64.wrap a) (nat_lit 13), bitI (IntKind.u64.wrap a) (nat_lit 14), bitI (IntKind.u64.wrap a) (nat_lit 15), bitI (IntKind.u64.wrap a) (nat_lit 16), bitI (IntKind.u64.wrap a) (nat_lit 17), bitI (IntKind.u64.wrap a) (nat_lit 18), bitI (IntKind.u64.wrap a) (nat_lit 19), bitI (IntKind.u64.wrap a) (nat_lit 20), bitI (IntKind.u64.wrap a) (nat_lit 21), bitI (IntKind.u64.wrap a) (nat_lit 22), bitI (IntKind.u64.wrap a) (nat_lit 23), bitI (IntKind.u64.wrap a) (nat_lit 24), bitI (IntKind.u64.wrap a) (nat_lit 25), bitI (IntKind.u64.wrap a) (nat_lit 26), bitI (IntKind.u64.wrap a) (nat_lit 27), bitI (IntKind.u64.wrap a) (nat_lit 28), bitI (IntKind.u64.wrap a) (nat_lit 29), bitI (IntKind.u64.wrap a) (nat_lit 30), bitI (IntKind.u64.wrap a) (nat_lit 31), bitI (IntKind.u64.wrap a) (nat_lit 32), bitI (IntKind.u64.wrap a) (nat_lit 33), bitI (IntKind.u64.wrap a) (nat_lit 34), bitI (IntKind.u64.wrap a) (nat_lit 35), bitI (IntKind.u64.wrap a) (nat_lit 36), bitI (IntKind.u64.wrap a) (nat_lit 37), bitI (IntKind.u64.wrap a) (nat_lit 38), bitI (IntKind.u64.wrap a) (nat_lit 39), bitI (IntKind.u64.wrap a) (nat_lit 40), bitI (IntKind.u64.wrap a) (nat_lit 41), bitI (IntKind.u64.wrap a) (nat_lit 42), bitI (IntKind.u64.wrap a) (nat_lit 43), bitI (IntKind.u64.wrap a) (nat_lit 44), bitI (IntKind.u64.wrap a) (nat_lit 45), bitI (IntKind.u64.wrap a) (nat_lit 46), bitI (IntKind.u64.wrap a) (nat_lit 47), bitI (IntKind.u64.wrap a) (nat_lit 48), bitI (IntKind.u64.wrap a) (nat_lit 49), bitI (IntKind.u64.wrap a) (nat_lit 50), bitI (IntKind.u64.wrap a) (nat_lit 51), bitI (IntKind.u64.wrap a) (nat_lit 52), bitI (IntKind.u64.wrap a) (nat_lit 53), bitI (IntKind.u64.wrap a) (nat_lit 54), bitI (IntKind.u64.wrap a) (nat_lit 55), bitI (IntKind.u64.wrap a) (nat_lit 56), bitI (IntKind.u64.wrap a) (nat_lit 57), bitI (IntKind.u64.wrap a) (nat_lit 58), bitI (IntKind.u64.wrap a) (nat_lit 59), bitI (IntKind.u64.wrap a) (nat_lit 60), bitI (IntKind.u64.wrap a) (nat_lit 61), bitI (IntKind.u64.wrap a) (nat_lit 62), bitI (IntKind.u64.wrap a) (nat_lit 63)].getD b.toNat false
def f122 : List SV → Option (Tr SV)
  | [.int .i64 a, .int .i64 b] => some (Tr.need (f122_0 a b) (Tr.need (f122_1 a b) (Tr.leaf (SV.bool (f122_2 a b)))))
  | _ => none
theorem s122 : Sound Try.prog th 122 (pureC f122) := pure_auto (us := us122) (nice := nice105) nok105 20 fun args t h => by
  unfold f122 at h
  split at h
  · cases h; kernel_rfl
  · cases h
noncomputable def nice122 : List (Nat × CF th.R) := (122, pureC f122) :: nice105
theorem nok122 : NiceOk Try.prog th nice122 := ⟨s122, nok105⟩
end Go.Sx.M

namespace Go.Sx.M
open Go Go.Sx Go.Proofs Go.RowKit
def us117 : List Un := [⟨173, [(2, 6)], [6]⟩, ⟨164, [(5, 7)], [15]⟩]
def f117_0 (a : Int) (b : Int) : Int := cnd (cnd (!f116_0 a) true !f116_0 b) (0 : Int) (Go.bits Go.BinOp.and IntKind.i64 a b)
def f117 : List SV → Option (Tr SV)
  | [.int .i64 a, .int .i64 b] => some (Tr.leaf (SV.int .i64 (f117_0 a b)))
  | _ => none
theorem s117 : Sound Try.prog th 117 (pureC f117) := pure_auto (us := us117) (nice := nice122) nok122 20 fun args t h => by
  unfold f117 at h
  split at h
  · cases h; kernel_rfl
  · cases h
noncomputable def nice117 : List (Nat × CF th.R) := (117, pureC f117) :: nice122
theorem nok117 : NiceOk Try.prog th nice117 := ⟨s117, nok122⟩
end Go.Sx.M

namespace Go.Sx.M
open Go Go.Sx Go.Proofs Go.RowKit
def us98 : List Un := [⟨173, [(2, 6)], [6]⟩, ⟨164, [(5, 7)], [15]⟩]
def f98_0 (w : Int) (n : Int) : Int := cnd (f125_0 w n) w (IntKind.u64.wrap (Go.bits Go.BinOp.or IntKind.u64 w (f123_1 n) + (1 : Int)))
def f98_1 (w : Int) (n : Int) : Bool := cnd (f125_0 w n) true (Go.bits Go.BinOp.or IntKind.u64 w (f123_1 n) != (18446744073709551615 : Int))
def f98 : List SV → Option (Tr SV)
  | [.int .u64 w, .int .i64 n] => some (Tr.leaf (SV.tup [SV.int .u64 (f98_0 w n), SV.bool (f98_1 w n)]))
  | _ => none
theorem s98 : Sound Try.prog th 98 (pureC f98) := pure_auto (us := us98) (nice := nice117) nok117 20 fun args t h => by
  unfold f98 at h
  split at h
  · cases h; kernel_rfl
  · cases h
noncomputable def nice98 : List (Nat × CF th.R) := (98, pureC f98) :: nice117
theorem nok98 : NiceOk Try.prog th nice98 := ⟨s98, nok117⟩
end Go.Sx.M

namespace Go.Sx.M
open Go Go.Sx Go.Proofs Go.RowKit
def us148 : List Un := [⟨173, [(2, 6)], [6]⟩, ⟨164, [(5, 7)], [15]⟩]
def f148_0 (w : Int) : Prop := (0 : Int) ≤ (12 : Int)
def f148_1 (w : Int) : Prop := (4096 : Int) ≠ (0 : Int)
def f148_2 (w : Int) : Prop := (8 : Int) ≠ (0 : Int)
def f148_3 (w : Int) : Int := w.fdiv (4096 : Int)
def f148_4 (w : Int) : Int := IntKind.u64.wrap ((w.tmod (4096 : Int)).tdiv (8 : Int))
theorem n148_0 (w : Int) : f148_0 w := by
  simp only [f148_0, cnd_eq]
  grind (splits := 40)
theorem n148_1 (w : Int) : f148_1 w := by
  simp only [f148_1, cnd_eq]
  grind (splits := 40)
theorem n148_2 (w : Int) : f148_2 w := by
  simp only [f148_2, cnd_eq]
  grind (splits := 40)
def f148 : List SV → Option (Tr SV)
  | [.int .u64 w] => some (Tr.leaf (SV.tup [SV.int .u64 (f148_3 w), SV.int .u64 (f148_4 w)]))
  | _ => none
theorem s148 : Sound Try.prog th 148 (pureC f148) := pure_auto2 (us := us148) (nice := nice98) nok98 20 fun args t h => by
  unfold f148 at h
  split at h
  · rename_i w
    cases h
    refine ⟨(Tr.need (f148_0 w) (Tr.need (f148_1 w) (Tr.need (f148_2 w) (Tr.leaf (SV.tup [SV.int .u64 (f148_3 w), SV.int .u64 (f148_4 w)]))))), by kernel_rfl, fun ok => ?_, rfl⟩
    first
    | (simp only [Tr.ok, n148_0, n148_1, n148_2, true_and, and_true, forall_const, implies_true]; done)
    | (simp only [Tr.ok, n148_0, n148_1, n148_2, true_and, and_true, forall_const, implies_true]; done)
    | (simpa only [Tr.ok, n148_0, n148_1, n148_2, true_and, and_true, forall_const, implies_true] using ok; done)
    | (simp only [Tr.ok, n148_0, n148_1, n148_2, true_and, and_true, forall_const, implies_true] at ok ⊢; grind)
  · cases h
noncomputable def nice148 : List (Nat × CF th.R) := (148, pureC f148) :: nice98
theorem nok148 : NiceOk Try.prog th nice148 := ⟨s148, nok98⟩
end Go.Sx.M

namespace Go.Sx.M
open Go Go.Sx Go.Proofs Go.RowKit
def us30 : List Un := [⟨173, [(2, 6)], [6]⟩, ⟨164, [(5, 7)], [15]⟩]
def f30_0 (w : Int) : Prop := (32 : Int) ≠ (0 : Int)
def f30_1 (w : Int) : Int := cnd (w.tmod (32 : Int) != (0 : Int)) (13 : Int) (cnd (decide (w ≥ (65536 : Int))) (12 : Int) (0 : Int))
theorem n30_0 (w : Int) : f30_0 w := by
  simp only [f30_0, cnd_eq]
  grind (splits := 40)
def f30 : List SV → Option (Tr SV)
  | [.int .u64 w] => some (Tr.leaf (SV.int .i64 (f30_1 w)))
  | _ => none
theorem s30 : Sound Try.prog th 30 (pureC f30) := pure_auto2 (us := us30) (nice := nice148) nok148 20 fun args t h => by
  unfold f30 at h
  split at h
  · rename_i w
    cases h
    refine ⟨(Tr.need (f30_0 w) (Tr.leaf (SV.int .i64 (f30_1 w)))), by kernel_rfl, fun ok => ?_, rfl⟩
    first
    | (simp only [Tr.ok, n30_0, true_and, and_true, forall_const, implies_true]; done)
    | (simp only [Tr.ok, n30_0, true_and, and_true, forall_const, implies_true]; done)
    | (simpa only [Tr.ok, n30_0, true_and, and_true, forall_const, implies_true] using ok; done)
    | (simp only [Tr.ok, n30_0, true_and, and_true, forall_const, implies_true] at ok ⊢; grind)
  · cases h
noncomputable def nice30 : List (Nat × CF th.R) := (30, pureC f30) :: nice148
theorem nok30 : NiceOk Try.prog th nice30 := ⟨s30, nok148⟩
end Go.Sx.M

namespace Go.Sx.M
open Go Go.Sx Go.Proofs Go.RowKit
def us107 : List Un := [⟨173, [(2, 6)], [6]⟩, ⟨164, [(5, 7)], [15]⟩]
def f107_0 (w : Int) : Prop := (0 : Int) ≤ (32 : Int)
def f107_1 (w : Int) : Bool := cnd (w.fdiv (4294967296 : Int) == (0 : Int)) (f125_0 w (5 : Int)) false
theorem n107_0 (w : Int) : f107_0 w := by
  simp only [f107_0, cnd_eq]
  grind (splits := 40)
def f107 : List SV → Option (Tr SV)
  | [.int .u64 w] => some (Tr.leaf (SV.bool (f107_1 w)))
  | _ => none
theorem s107 : Sound Try.prog th 107 (pureC f107) := pure_auto2 (us := us107) (nice := nice30) nok30 20 fun args t h => by
  unfold f107 at h
  split at h
  · rename_i w
    cases h
    refine ⟨(Tr.need (f107_0 w) (Tr.leaf (SV.bool (f107_1 w)))), by kernel_rfl, fun ok => ?_, rfl⟩
    first
    | (simp only [Tr.ok, n107_0, true_and, and_true, forall_const, implies_true]; done)
    | (simp only [Tr.ok, n107_0, true_and, and_true, forall_const, implies_true]; done)
    | (simpa only [Tr.ok, n107_0, true_and, and_true, forall_const, implies_true] using ok; done)
    | (simp only [Tr.ok, n107_0, true_and, and_true, forall_const, implies_true] at ok ⊢; grind)
  · cases h
noncomputable def nice107 : List (Nat × CF th.R) := (107, pureC f107) :: nice30
theorem nok107 : NiceOk Try.prog th nice107 := ⟨s107, nok30⟩
end Go.Sx.M

namespace Go.Sx.M
open Go Go.Sx Go.Proofs Go.RowKit
def us180 : List Un := [⟨173, [(2, 6)], [6]⟩, ⟨164, [(5, 7)], [15]⟩]
def f180_0 (a : Int) (b : Int) (c : Int) : Int := cnd (a == b) c (cnd (a == c) b a)
def f180 : List SV → Option (Tr SV)
  | [.int .u64 a, .int .u64 b, .int .u64 c] => some (Tr.leaf (SV.int .u64 (f180_0 a b c)))
  | _ => none
theorem s180 : Sound Try.prog th 180 (pureC f180) := pure_auto (us := us180) (nice := nice107) nok107 20 fun args t h => by
  unfold f180 at h
  split at h
  · cases h; kernel_rfl
  · cases h
noncomputable def nice180 : List (Nat × CF th.R) := (180, pureC f180) :: nice107
theorem nok180 : NiceOk Try.prog th nice180 := ⟨s180, nok107⟩
end Go.Sx.M

namespace Go.Sx.M
open Go Go.Sx Go.Proofs Go.RowKit
def us178 : List Un := [⟨173, [(2, 6)], [6]⟩, ⟨164, [(5, 7)], [15]⟩]
def f178_0 (k : Int) (a : Int) (b : Int) (r : Int) (g : Int) (s : Int) (m : Int) : Int := cnd (cnd (!f45_1 k a b r g s m) true (k == (0 : Int))) (10 : Int) (0 : Int)
def f178 : List SV → Option (Tr SV)
  | [.agg [.int .i64 k, .int .u64 a, .int .i64 b, .int .i64 r, .int .i64 g, .int .i64 s, .int .u64 m]] => some (Tr.leaf (SV.int .i64 (f178_0 k a b r g s m)))
  | _ => none
theorem s178 : Sound Try.prog th 178 (pureC f178) := pure_auto (us := us178) (nice := nice180) nok180 20 fun args t h => by
  unfold f178 at h
  split at h
  · cases h; kernel_rfl
  · cases h
noncomputable def nice178 : List (Nat × CF th.R) := (178, pureC f178) :: nice180
theorem nok178 : NiceOk Try.prog th nice178 := ⟨s178, nok180⟩
end Go.Sx.M

namespace Go.Sx.M
open Go Go.Sx Go.Proofs Go.RowKit Go.Maps
theorem and7 {a : Int} (h0 : 0 ≤ a) (h1 : a < 18446744073709551616) : (Go.bits .and .u64 a 7 = 0) ↔ a % 8 = 0 := by
  have := f125_0
  obtain ⟨w, rfl⟩ : ∃ w : Nat, a = w := ⟨a.toNat, by omega⟩
  have e : (7 : Int) = ((2 ^ 3 - 1 : Nat) : Int) := by decide
  rw [e, u64_and_nat w _ (by omega) (by decide), Nat.and_two_pow_sub_one_eq_mod]
  omega
/-- Why a word may not be asked for. -/
def errI (size a : Int) : Int := if a % 8 = 0 then if size ≤ a then 12 else 0 else 13
theorem errI_ok {size a : Int} (h : a % 8 = 0) (h2 : a < size) : errI size a = 0 := by
  unfold errI; rw [if_pos h, if_neg (by omega)]
theorem errI_bad {size a : Int} (h : errI size a = 0) : a % 8 = 0 ∧ a < size := by
  unfold errI at h
  split at h
  · split at h
    · omega
    · omega
  · omega
theorem may_ok {b : Nat} {size a : Int} (w : World) (h0 : 0 ≤ a) (h1 : a < 18446744073709551616) (c0 : w.cell? ⟨b, 0, none⟩ = some (.int .u64 size)) :
    Calls Try.prog 145 #[.pointer (some ⟨b, 0, none⟩), .int .u64 a] w fun e w' => e = .returned (.int .i64 (errI size a)) ∧ w' = w := by
  unfold errI
  have key := and7 h0 h1
  generalize hq : Go.bits .and .u64 a 7 = q at key
  by_cases hz : q = 0 <;> by_cases hs : size ≤ a
  all_goals
    go_enter Try.func145, Try.ntmps145
    go_wp2
  all_goals (go_ret; refine ⟨?_, rfl⟩; simp_all)
theorem place_ok {a : Int} (w : World) (h0 : 0 ≤ a) (h1 : a < 18446744073709551616) :
    Calls Try.prog 148 #[.int .u64 a] w fun e w' => e = .returned (.tuple #[.int .u64 (a / 4096), .int .u64 (a % 4096 / 8)]) ∧ w' = w := by
  go_enter Try.func148, Try.ntmps148
  go_wp2
  go_ret2
  simp
theorem size_ok {b : Nat} {size : Int} (w : World) (c0 : w.cell? ⟨b, 0, none⟩ = some (.int .u64 size)) :
    Calls Try.prog 156 #[.pointer (some ⟨b, 0, none⟩)] w fun e w' => e = .returned (.int .u64 size) ∧ w' = w := by
  go_enter Try.func156, Try.ntmps156
  go_wp2
  go_ret
  exact ⟨rfl, rfl⟩
theorem read_err {b : Nat} {size a : Int} (w : World) (h0 : 0 ≤ a) (h1 : a < 18446744073709551616) (c0 : w.cell? ⟨b, 0, none⟩ = some (.int .u64 size)) (hne : errI size a ≠ 0) :
    Calls Try.prog 74 #[.pointer (some ⟨b, 0, none⟩), .int .u64 a] w fun e w' => e = .returned (.tuple #[.int .u64 0, .int .i64 (errI size a)]) ∧ w' = w := by
  have hmay := may_ok (size := size) w h0 h1 c0
  generalize errI size a = er at hmay hne ⊢
  go_enter Try.func74, Try.ntmps74
  go_wp2_with (first | (go_at_call 145; refine hmay.mono ?_; rintro e w' ⟨rfl, rfl⟩) | go_in)
  all_goals (go_ret2; exact ⟨rfl, rfl⟩)
theorem read_none {b mb : Nat} {size a : Int} (w : World) (h0 : 0 ≤ a) (h1 : a < 18446744073709551616) (c0 : w.cell? ⟨b, 0, none⟩ = some (.int .u64 size)) (c1 : w.cell? ⟨b, 1, none⟩ = some (.map (some mb))) (hz : errI size a = 0)
    (hlook : (Instr.lookup 185 (.map (some mb)) (.int .u64 (a / 4096)) true).run Try.prog w = .ok (.tuple #[.pointer none, .bool false]) w) :
    Calls Try.prog 74 #[.pointer (some ⟨b, 0, none⟩), .int .u64 a] w fun e w' => e = .returned (.tuple #[.int .u64 0, .int .i64 0]) ∧ w' = w := by
  have hmay := may_ok (size := size) w h0 h1 c0
  have hpl := place_ok (a := a) w h0 h1
  rw [hz] at hmay
  generalize a / 4096 = p at hpl hlook
  generalize a % 4096 / 8 = q at hpl
  go_enter Try.func74, Try.ntmps74
  go_wp2_with (first | (go_at_call 145; refine hmay.mono ?_; rintro e w' ⟨rfl, rfl⟩) | (go_at_call 148; refine hpl.mono ?_; rintro e w' ⟨rfl, rfl⟩) | go_in)
  all_goals (go_ret2; exact ⟨rfl, rfl⟩)
theorem read_some {b mb s : Nat} {size a x : Int} (w : World) (h0 : 0 ≤ a) (h1 : a < 18446744073709551616) (c0 : w.cell? ⟨b, 0, none⟩ = some (.int .u64 size)) (c1 : w.cell? ⟨b, 1, none⟩ = some (.map (some mb))) (hz : errI size a = 0)
    (hlook : (Instr.lookup 185 (.map (some mb)) (.int .u64 (a / 4096)) true).run Try.prog w = .ok (.tuple #[.pointer (some ⟨s, 0, none⟩), .bool true]) w)
    (cs : w.cell? ⟨s, (a % 4096 / 8).toNat, none⟩ = some (.int .u64 x)) :
    Calls Try.prog 74 #[.pointer (some ⟨b, 0, none⟩), .int .u64 a] w fun e w' => e = .returned (.tuple #[.int .u64 x, .int .i64 0]) ∧ w' = w := by
  have hmay := may_ok (size := size) w h0 h1 c0
  have hpl := place_ok (a := a) w h0 h1
  rw [hz] at hmay
  have hq0 : 0 ≤ a % 4096 / 8 := by omega
  have hq1 : a % 4096 / 8 < 512 := by omega
  generalize a / 4096 = p at hpl hlook
  generalize a % 4096 / 8 = q at hpl cs hq0 hq1
  obtain ⟨n, rfl⟩ : ∃ n : Nat, q = n := ⟨q.toNat, by omega⟩
  have cs : w.cell? ⟨s, n, none⟩ = some (.int .u64 x) := by simpa using cs
  have hn : n < 512 := by omega
  go_enter Try.func74, Try.ntmps74
  go_wp2_with (first | (go_at_call 145; refine hmay.mono ?_; rintro e w' ⟨rfl, rfl⟩) | (go_at_call 148; refine hpl.mono ?_; rintro e w' ⟨rfl, rfl⟩) | go_in)
  all_goals (go_ret2; first | exact ⟨rfl, rfl⟩ | trace_state)
end Go.Sx.M

namespace Go.Sx.M
open Go Go.Sx Go.Proofs Go.RowKit Go.Maps
theorem put_some {b mb s : Nat} {a x y : Int} (w : World) (h0 : 0 ≤ a) (h1 : a < 18446744073709551616) (c1 : w.cell? ⟨b, 1, none⟩ = some (.map (some mb)))
    (hlook : (Instr.lookup 185 (.map (some mb)) (.int .u64 (a / 4096)) true).run Try.prog w = .ok (.tuple #[.pointer (some ⟨s, 0, none⟩), .bool true]) w)
    (cs : w.cell? ⟨s, (a % 4096 / 8).toNat, none⟩ = some (.int .u64 y)) (fs : w.frozen? ⟨s, (a % 4096 / 8).toNat, none⟩ = false) :
    Calls Try.prog 146 #[.pointer (some ⟨b, 0, none⟩), .int .u64 a, .int .u64 x] w fun e w' => e = .returned (.tuple #[]) ∧ w' = w.setCell ⟨s, (a % 4096 / 8).toNat, none⟩ (.int .u64 x) := by
  have hpl := place_ok (a := a) w h0 h1
  have hq0 : 0 ≤ a % 4096 / 8 := by omega
  have hq1 : a % 4096 / 8 < 512 := by omega
  generalize a / 4096 = p at hpl hlook
  generalize a % 4096 / 8 = q at hpl cs fs hq0 hq1
  obtain ⟨n, rfl⟩ : ∃ n : Nat, q = n := ⟨q.toNat, by omega⟩
  have cs : w.cell? ⟨s, n, none⟩ = some (.int .u64 y) := by simpa using cs
  have fs : w.frozen? ⟨s, n, none⟩ = false := by simpa using fs
  have hn : n < 512 := by omega
  simp only [Int.toNat_natCast]
  go_enter Try.func146, Try.ntmps146
  go_wp2_with (first | (go_at_call 148; refine hpl.mono ?_; rintro e w' ⟨rfl, rfl⟩) | go_in)
  all_goals (go_end0; first | exact ⟨rfl, rfl⟩ | trace_state)
theorem put_zero {b mb : Nat} {a : Int} (w : World) (h0 : 0 ≤ a) (h1 : a < 18446744073709551616) (c1 : w.cell? ⟨b, 1, none⟩ = some (.map (some mb)))
    (hlook : (Instr.lookup 185 (.map (some mb)) (.int .u64 (a / 4096)) true).run Try.prog w = .ok (.tuple #[.pointer none, .bool false]) w) :
    Calls Try.prog 146 #[.pointer (some ⟨b, 0, none⟩), .int .u64 a, .int .u64 0] w fun e w' => e = .returned (.tuple #[]) ∧ w' = w := by
  have hpl := place_ok (a := a) w h0 h1
  generalize a / 4096 = p at hpl hlook
  generalize a % 4096 / 8 = q at hpl
  go_enter Try.func146, Try.ntmps146
  go_wp2_with (first | (go_at_call 148; refine hpl.mono ?_; rintro e w' ⟨rfl, rfl⟩) | go_in)
  all_goals (go_end0; first | exact ⟨rfl, rfl⟩ | trace_state)
theorem law22 : Keyed Try.prog 22 := int_keyed Try.underlying22
theorem rel_noughts : ∀ (n : Nat) (l : List Value), RelL [] (List.replicate n (SV.int .u64 0)) l → l = List.replicate n (Value.int .u64 0)
  | 0, l, h => by simpa [RelL] using h
  | n + 1, l, h => by
    obtain ⟨y, ys, rfl, h1, h2⟩ := h
    have h1 : y = .int .u64 0 := h1
    rw [h1, rel_noughts n ys h2]; rfl
/-- A sheet of noughts. -/
theorem sheet0 : ∃ zs : Array Value, (∀ w, (Instr.alloc 193 true (.tuple #[])).run Try.prog w = .ok (.pointer (some ⟨w.heap.size, 0, none⟩)) (w.alloc (.cells zs 193))) ∧ (∀ n : Nat, n < 512 → zs[n]? = some (.int .u64 0)) ∧
    ∀ n v, zs.setIfInBounds n v = ((List.replicate 512 (.int .u64 0)).set n v).toArray := by
  have hz : zeroCellsOf Try.prog 193 = some ((List.replicate 512 (SV.int .u64 0))) := by kernel_rfl
  generalize 512 = N at hz ⊢
  refine ⟨(List.replicate N (Value.int .u64 0)).toArray, fun w => ?_, fun n hn => ?_, fun n v => ?_⟩
  · obtain ⟨z, e1, k1⟩ := zeroCellsOf_sound hz [] w
    have e2 : z.cells = (List.replicate N (Value.int .u64 0)).toArray := by rw [← rel_noughts _ _ k1]
    rw [← e2]
    simp [Instr.alloc, e1, newVar, newRow]
  · simp [hn]
  · apply Array.toList_inj.1; simp
theorem wpList_alloc193 {P : Program} {w : World} {ops : Array Oper} {rest : List Oper} {d ty : Nat} {pos : String} {after : Array Edge} {a : Act} {Q : Exit → Act → World → Prop} {zs : Array Value}
    (hal : ∀ w, (Instr.alloc 193 true (.tuple #[])).run P w = .ok (.pointer (some ⟨w.heap.size, 0, none⟩)) (w.alloc (.cells zs 193)))
    (hK : wpList P ops Q rest (a.put (some d) (.pointer (some ⟨w.heap.size, 0, none⟩))) (w.alloc (.cells zs 193))) :
    wpList P ops Q ({ dst := some d, op := Op.alloc 193, type := ty, pos := pos, after := after, guard := none } :: rest) a w := by
  refine wpList_plain rfl fun K' hK' => ?_
  unfold Oper.wp
  simp [execOp, hal, Result.andThen]
  exact hK' _ _ hK
set_option maxRecDepth 100000 in
theorem put_none {b mb : Nat} {a x : Int} {D : DataW Unit} {zs : Array Value} (hal : ∀ w, (Instr.alloc 193 true (.tuple #[])).run Try.prog w = .ok (.pointer (some ⟨w.heap.size, 0, none⟩)) (w.alloc (.cells zs 193))) (hzn : ∀ n : Nat, n < 512 → zs[n]? = some (.int .u64 0))
    (w : World) (h0 : 0 ≤ a) (h1 : a < 18446744073709551616) (hx : x ≠ 0) (c1 : w.cell? ⟨b, 1, none⟩ = some (.map (some mb)))
    (hlook : (Instr.lookup 185 (.map (some mb)) (.int .u64 (a / 4096)) true).run Try.prog w = .ok (.tuple #[.pointer none, .bool false]) w) {n0 : Nat} (hown : w.ownsMap Try.prog 22 ptrElem mb n0 D) (hn0 : n0 < maxLen) (hb : b < w.heap.size) (hmb : mb < w.heap.size) (hbm : b ≠ mb)
    (hw : (Lit.int .u64 (a / 4096)).wf = true) :
    Calls Try.prog 146 #[.pointer (some ⟨b, 0, none⟩), .int .u64 a, .int .u64 x] w fun e w' => e = .returned (.tuple #[]) ∧ 
      w'.heap[w.heap.size]? = some (.cells (zs.setIfInBounds (a % 4096 / 8).toNat (.int .u64 x)) 193 (0, 0)) ∧ (∀ i, i < w.heap.size → i ≠ mb → w'.heap[i]? = w.heap[i]?) ∧
      w'.ownsMap Try.prog 22 ptrElem mb (n0 + 1) (D.put (.int .u64 (a / 4096)) (.lit (.int .i64 (w.heap.size : Nat)))) ∧ Turns (fun i => i = mb) w w' := by
  have hpl := place_ok (a := a) w h0 h1
  have hq0 : 0 ≤ a % 4096 / 8 := by omega
  have hq1 : a % 4096 / 8 < 512 := by omega
  generalize a / 4096 = p at hpl hlook hw ⊢
  generalize a % 4096 / 8 = q at hpl hq0 hq1 ⊢
  obtain ⟨n, rfl⟩ : ∃ n : Nat, q = n := ⟨q.toNat, by omega⟩
  have hn : n < 512 := by omega
  simp only [Int.toNat_natCast]
  have hkey := keyOf_int_mk Try.underlying22 hw
  have hzn := hzn n hn
  go_enter Try.func146, Try.ntmps146
  go_wp2_with (first | (go_at_call 148; refine hpl.mono ?_; rintro e w' ⟨rfl, rfl⟩) | (with_reducible refine wpList_alloc193 hal ?_) | (at_mapUpdate; go_loud (refine wpList_mapUpdate_in _ rfl _ _ _ 185 rfl 22 190 law22 Try.underlying185 _ mb n0 D rfl (hown.alloc _) hn0 _ _ _ rfl rfl hkey _ [] rfl ?_); intro w1 hown1 hturn1) | go_in)
  go_end0
  have hg := hturn1.grown
  have hf := hturn1.frozen
  generalize hw2 : w'.alloc _ = w2 at hg hf hown1
  have b2 : ∀ i, i < w'.heap.size → w2.heap[i]? = w'.heap[i]? := fun i hi => by
    rw [← hw2, Below.heap_alloc _ _ _ hi]
  have sz2 : w2.heap.size = w'.heap.size + 1 := by rw [← hw2]; exact Array.size_push ..
  refine ⟨rfl, ?_, fun i hi hne => ?_, hown1, ?_⟩
  · rw [hg.block _ (by omega) (by simp; omega), ← hw2]
    exact (MapKept.heap_alloc _ _).1
  · rw [hg.block _ (by omega) (by simpa using hne), b2 i hi]
  · refine ⟨?_, ?_, ?_, by have := hg.size; omega, fun i hi hne => ?_, fun c => ?_⟩
    · rw [hg.os, ← hw2]; rfl
    · rw [hg.tape, ← hw2]; rfl
    · rw [hg.output, ← hw2]; rfl
    · rw [hg.block _ (by omega) (by simpa using hne), b2 i hi]
    · rw [hf, ← hw2, frozen?_alloc_cells]
end Go.Sx.M

namespace Go.Sx.M
open Go Go.Sx Go.Proofs Go.RowKit Go.Maps
theorem and4095 {a : Int} (h0 : 0 ≤ a) (h1 : a < 18446744073709551616) : (Go.bits .and .u64 a 4095 = 0) ↔ a % 4096 = 0 := by
  obtain ⟨w, rfl⟩ : ∃ w : Nat, a = w := ⟨a.toNat, by omega⟩
  have e : (4095 : Int) = ((2 ^ 12 - 1 : Nat) : Int) := by decide
  rw [e, u64_and_nat w _ (by omega) (by decide), Nat.and_two_pow_sub_one_eq_mod]
  omega
/-- May a memory have a size? -/
def sizeOk (a : Int) : Prop := 65536 ≤ a ∧ a ≤ 4294967296 ∧ a % 4096 = 0
instance (a : Int) : Decidable (sizeOk a) := by unfold sizeOk; infer_instance
theorem new_bad {a : Int} (w : World) (h0 : 0 ≤ a) (h1 : a < 18446744073709551616) (hn : ¬ sizeOk a) :
    Calls Try.prog 71 #[.int .u64 a] w fun e w' => e = .returned (.tuple #[.pointer none, .int .i64 11]) ∧ w' = w := by
  have key := and4095 h0 h1
  unfold sizeOk at hn
  generalize hq : Go.bits .and .u64 a 4095 = q at key
  by_cases h2 : a < 65536
  · go_enter Try.func71, Try.ntmps71
    go_wp2
    go_ret2
    exact ⟨rfl, rfl⟩
  · by_cases h3 : a ≤ 4294967296
    · have hz : q ≠ 0 := fun e => hn ⟨by omega, h3, key.1 e⟩
      have hzb : (q == 0) = false := by simpa using hz
      go_enter Try.func71, Try.ntmps71
      go_wp2
      go_ret2
      exact ⟨rfl, rfl⟩
    · go_enter Try.func71, Try.ntmps71
      go_wp2
      go_ret2
      exact ⟨rfl, rfl⟩
theorem new_good {a : Int} (w : World) (hn : sizeOk a) :
    Calls Try.prog 71 #[.int .u64 a] w fun e w' => e = .returned (.tuple #[.pointer (some ⟨w.heap.size + 1, 0, none⟩), .int .i64 0]) ∧
      w' = (w.alloc (.map #[] 0)).alloc (.cells #[.int .u64 a, .map (some w.heap.size)] 187) := by
  obtain ⟨g1, g2, g3⟩ := hn
  have key := and4095 (a := a) (by omega) (by omega)
  generalize hq : Go.bits .and .u64 a 4095 = q at key
  have hz : q = 0 := key.2 g3
  subst hz
  have hmm := @run_makeMap Try.prog
  go_enter Try.func71, Try.ntmps71
  go_wp2
  go_ret2
  exact ⟨rfl, rfl⟩
end Go.Sx.M

namespace Go.Sx.M
open Go Go.Sx Go.Proofs Go.RowKit
def us46 : List Un := [⟨173, [(2, 6)], [6]⟩, ⟨164, [(5, 7)], [15]⟩, ⟨46, [(4, 4)], [9]⟩]
def f46_0 (a : Int) (b : Int) : Prop := f122_0 a (0 : Int)
def f46_1 (a : Int) (b : Int) : Prop := f122_1 a (0 : Int)
def f46_2 (a : Int) (b : Int) : Prop := cnd (f122_2 a (0 : Int)) true false = true → f122_0 b (0 : Int) ∧ f122_1 b (0 : Int)
def f46_3 (a : Int) (b : Int) : Prop := f122_0 a (1 : Int)
def f46_4 (a : Int) (b : Int) : Prop := f122_1 a (1 : Int)
def f46_5 (a : Int) (b : Int) : Prop := cnd (f122_2 a (1 : Int)) true false = true → f122_0 b (1 : Int) ∧ f122_1 b (1 : Int)
def f46_6 (a : Int) (b : Int) : Prop := f122_0 a (2 : Int)
def f46_7 (a : Int) (b : Int) : Prop := f122_1 a (2 : Int)
def f46_8 (a : Int) (b : Int) : Prop := cnd (f122_2 a (2 : Int)) true false = true → f122_0 b (2 : Int) ∧ f122_1 b (2 : Int)
def f46_9 (a : Int) (b : Int) : Int := cnd (cnd (f122_2 a (2 : Int)) (f122_2 b (2 : Int)) false) (IntKind.i64.wrap (cnd (cnd (f122_2 a (1 : Int)) (f122_2 b (1 : Int)) false) (IntKind.i64.wrap (cnd (cnd (f122_2 a (0 : Int)) (f122_2 b (0 : Int)) false) (1 : Int) (0 : Int) + (2 : Int))) (cnd (cnd (f122_2 a (0 : Int)) (f122_2 b (0 : Int)) false) (1 : Int) (0 : Int)) + (4 : Int))) (cnd (cnd (f122_2 a (1 : Int)) (f122_2 b (1 : Int)) false) (IntKind.i64.wrap (cnd (cnd (f122_2 a (0 : Int)) (f122_2 b (0 : Int)) false) (1 : Int) (0 : Int) + (2 : Int))) (cnd (cnd (f122_2 a (0 : Int)) (f122_2 b (0 : Int)) false) (1 : Int) (0 : Int)))
theorem n46_0 (a : Int) (b : Int) : f46_0 a b := by
  simp only [f46_0, f122_0, f122_1, cnd_eq]
  grind (splits := 40)
theorem n46_1 (a : Int) (b : Int) : f46_1 a b := by
  simp only [f46_1, f122_0, f122_1, cnd_eq]
  grind (splits := 40)
theorem n46_2 (a : Int) (b : Int) : f46_2 a b := by
  simp only [f46_2, f122_0, f122_1, cnd_eq]
  grind (splits := 40)
theorem n46_3 (a : Int) (b : Int) : f46_3 a b := by
  simp only [f46_3, f122_0, f122_1, cnd_eq]
  grind (splits := 40)
theorem n46_4 (a : Int) (b : Int) : f46_4 a b := by
  simp only [f46_4, f122_0, f122_1, cnd_eq]
  grind (splits := 40)
theorem n46_5 (a : Int) (b : Int) : f46_5 a b := by
  simp only [f46_5, f122_0, f122_1, cnd_eq]
  grind (splits := 40)
theorem n46_6 (a : Int) (b : Int) : f46_6 a b := by
  simp only [f46_6, f122_0, f122_1, cnd_eq]
  grind (splits := 40)
theorem n46_7 (a : Int) (b : Int) : f46_7 a b := by
  simp only [f46_7, f122_0, f122_1, cnd_eq]
  grind (splits := 40)
theorem n46_8 (a : Int) (b : Int) : f46_8 a b := by
  simp only [f46_8, f122_0, f122_1, cnd_eq]
  grind (splits := 40)
def f46 : List SV → Option (Tr SV)
  | [.int .i64 a, .int .i64 b] => some (Tr.leaf (SV.int .i64 (f46_9 a b)))
  | _ => none
theorem s46 : Sound Try.prog th 46 (pureC f46) := pure_auto2 (us := us46) (nice := nice178) nok178 20 fun args t h => by
  unfold f46 at h
  split at h
  · rename_i a b
    cases h
    refine ⟨(Tr.need (f46_0 a b) (Tr.need (f46_1 a b) (Tr.need (f46_2 a b) (Tr.need (f46_3 a b) (Tr.need (f46_4 a b) (Tr.need (f46_5 a b) (Tr.need (f46_6 a b) (Tr.need (f46_7 a b) (Tr.need (f46_8 a b) (Tr.leaf (SV.int .i64 (f46_9 a b)))))))))))), by kernel_rfl, fun ok => ?_, rfl⟩
    first
    | (simp only [Tr.ok, n46_0, n46_1, n46_2, n46_3, n46_4, n46_5, n46_6, n46_7, n46_8, true_and, and_true, forall_const, implies_true]; done)
    | (simp only [Tr.ok, n46_0, n46_1, n46_2, n46_3, n46_4, n46_5, n46_6, n46_7, n46_8, true_and, and_true, forall_const, implies_true]; done)
    | (simpa only [Tr.ok, n46_0, n46_1, n46_2, n46_3, n46_4, n46_5, n46_6, n46_7, n46_8, true_and, and_true, forall_const, implies_true] using ok; done)
    | (simp only [Tr.ok, n46_0, n46_1, n46_2, n46_3, n46_4, n46_5, n46_6, n46_7, n46_8, true_and, and_true, forall_const, implies_true] at ok ⊢; grind)
  · cases h
noncomputable def nice46 : List (Nat × CF th.R) := (46, pureC f46) :: nice178
theorem nok46 : NiceOk Try.prog th nice46 := ⟨s46, nok178⟩
end Go.Sx.M

namespace Go.Sx.M
open Go Go.Sx Go.Proofs Go.RowKit
def us34 : List Un := [⟨173, [(2, 6)], [6]⟩, ⟨164, [(5, 7)], [15]⟩, ⟨46, [(4, 4)], [9]⟩]
def f34_0 (k : Int) (a : Int) (b : Int) (r : Int) (g : Int) (s : Int) (m : Int) (x : Int) (p : Int) (d : Int) : Bool := cnd (cnd (cnd (cnd (f45_1 k a b r g s m) (f107_1 x) false) (f107_1 p) false) (decide (d ≥ (0 : Int))) false) (decide (d ≤ (4096 : Int))) false
def f34 : List SV → Option (Tr SV)
  | [.agg [.int .i64 k, .int .u64 a, .int .i64 b, .int .i64 r, .int .i64 g, .int .i64 s, .int .u64 m, .int .u64 x, .int .u64 p, .int .i64 d]] => some (Tr.leaf (SV.bool (f34_0 k a b r g s m x p d)))
  | _ => none
theorem s34 : Sound Try.prog th 34 (pureC f34) := pure_auto (us := us34) (nice := nice46) nok46 20 fun args t h => by
  unfold f34 at h
  split at h
  · cases h; kernel_rfl
  · cases h
noncomputable def nice34 : List (Nat × CF th.R) := (34, pureC f34) :: nice46
theorem nok34 : NiceOk Try.prog th nice34 := ⟨s34, nok46⟩
end Go.Sx.M

namespace Go.Sx.M
open Go Go.Sx Go.Proofs Go.RowKit
def us31 : List Un := [⟨173, [(2, 6)], [6]⟩, ⟨164, [(5, 7)], [15]⟩, ⟨46, [(4, 4)], [9]⟩]
def f31_0 (k : Int) (a : Int) (b : Int) (r : Int) (g : Int) (s : Int) (m : Int) (x : Int) (p : Int) (d : Int) : Bool := k == (0 : Int) && (a == (0 : Int) && (b == (0 : Int) && (r == (0 : Int) && (g == (0 : Int) && (s == (0 : Int) && (m == (0 : Int) && true)))))) && (x == (0 : Int) && (p == (0 : Int) && (d == (0 : Int) && true)))
def f31 : List SV → Option (Tr SV)
  | [.agg [.int .i64 k, .int .u64 a, .int .i64 b, .int .i64 r, .int .i64 g, .int .i64 s, .int .u64 m, .int .u64 x, .int .u64 p, .int .i64 d]] => some (Tr.leaf (SV.bool (f31_0 k a b r g s m x p d)))
  | _ => none
theorem s31 : Sound Try.prog th 31 (pureC f31) := pure_auto (us := us31) (nice := nice34) nok34 20 fun args t h => by
  unfold f31 at h
  split at h
  · cases h; kernel_rfl
  · cases h
noncomputable def nice31 : List (Nat × CF th.R) := (31, pureC f31) :: nice34
theorem nok31 : NiceOk Try.prog th nice31 := ⟨s31, nok34⟩
end Go.Sx.M

namespace Go.Sx.M
open Go Go.Sx Go.Proofs Go.RowKit
def us104 : List Un := [⟨173, [(2, 6)], [6]⟩, ⟨164, [(5, 7)], [15]⟩, ⟨46, [(4, 4)], [9]⟩]
def f104_0 (k : Int) (a : Int) (b : Int) (r : Int) (g : Int) (s : Int) (m : Int) (x : Int) (p : Int) (d : Int) : Prop := (0 : Int) ≤ (5 : Int)
def f104_1 (k : Int) (a : Int) (b : Int) (r : Int) (g : Int) (s : Int) (m : Int) (x : Int) (p : Int) (d : Int) : Prop := (0 : Int) ≤ (32 : Int)
def f104_2 (k : Int) (a : Int) (b : Int) (r : Int) (g : Int) (s : Int) (m : Int) (x : Int) (p : Int) (d : Int) : Int := f164_14 k a b r g s m
def f104_3 (k : Int) (a : Int) (b : Int) (r : Int) (g : Int) (s : Int) (m : Int) (x : Int) (p : Int) (d : Int) : Int := f164_15 k a b r g s m
def f104_4 (k : Int) (a : Int) (b : Int) (r : Int) (g : Int) (s : Int) (m : Int) (x : Int) (p : Int) (d : Int) : Int := Go.bits Go.BinOp.or IntKind.u64 (x.fdiv (32 : Int)) (IntKind.u64.wrap (p.fdiv (32 : Int) * (4294967296 : Int)))
def f104_5 (k : Int) (a : Int) (b : Int) (r : Int) (g : Int) (s : Int) (m : Int) (x : Int) (p : Int) (d : Int) : Int := IntKind.u64.wrap d
theorem n104_0 (k : Int) (a : Int) (b : Int) (r : Int) (g : Int) (s : Int) (m : Int) (x : Int) (p : Int) (d : Int) : f104_0 k a b r g s m x p d := by
  simp only [f104_0, cnd_eq]
  grind (splits := 40)
theorem n104_1 (k : Int) (a : Int) (b : Int) (r : Int) (g : Int) (s : Int) (m : Int) (x : Int) (p : Int) (d : Int) : f104_1 k a b r g s m x p d := by
  simp only [f104_1, cnd_eq]
  grind (splits := 40)
def f104 : List SV → Option (Tr SV)
  | [.agg [.int .i64 k, .int .u64 a, .int .i64 b, .int .i64 r, .int .i64 g, .int .i64 s, .int .u64 m, .int .u64 x, .int .u64 p, .int .i64 d]] => some (Tr.leaf (SV.agg [SV.int .u64 (f104_2 k a b r g s m x p d), SV.int .u64 (f104_3 k a b r g s m x p d), SV.int .u64 (f104_4 k a b r g s m x p d), SV.int .u64 (f104_5 k a b r g s m x p d)]))
  | _ => none
theorem s104 : Sound Try.prog th 104 (pureC f104) := pure_auto2 (us := us104) (nice := nice31) nok31 20 fun args t h => by
  unfold f104 at h
  split at h
  · rename_i k a b r g s m x p d
    cases h
    refine ⟨(Tr.need (f104_0 k a b r g s m x p d) (Tr.need (f104_0 k a b r g s m x p d) (Tr.need (f104_1 k a b r g s m x p d) (Tr.leaf (SV.agg [SV.int .u64 (f104_2 k a b r g s m x p d), SV.int .u64 (f104_3 k a b r g s m x p d), SV.int .u64 (f104_4 k a b r g s m x p d), SV.int .u64 (f104_5 k a b r g s m x p d)]))))), by kernel_rfl, fun ok => ?_, rfl⟩
    first
    | (simp only [Tr.ok, n104_0, n104_1, true_and, and_true, forall_const, implies_true]; done)
    | (simp only [Tr.ok, n104_0, n104_1, true_and, and_true, forall_const, implies_true]; done)
    | (simpa only [Tr.ok, n104_0, n104_1, true_and, and_true, forall_const, implies_true] using ok; done)
    | (simp only [Tr.ok, n104_0, n104_1, true_and, and_true, forall_const, implies_true] at ok ⊢; grind)
  · cases h
noncomputable def nice104 : List (Nat × CF th.R) := (104, pureC f104) :: nice31
theorem nok104 : NiceOk Try.prog th nice104 := ⟨s104, nok31⟩
end Go.Sx.M

namespace Go.Sx.M
open Go Go.Sx Go.Proofs Go.RowKit
def us92 : List Un := [⟨173, [(2, 6)], [6]⟩, ⟨164, [(5, 7)], [15]⟩, ⟨46, [(4, 4)], [9]⟩]
def f92_0 (k : Int) (a : Int) (b : Int) (r : Int) (g : Int) (s : Int) (m : Int) (x : Int) (p : Int) (d : Int) : Prop := cnd (cnd (f50_2 k a b r g s m) (decide (x < (4294967296 : Int))) false) true false = true → (32 : Int) ≠ (0 : Int)
def f92_1 (k : Int) (a : Int) (b : Int) (r : Int) (g : Int) (s : Int) (m : Int) (x : Int) (p : Int) (d : Int) : Prop := cnd (cnd (cnd (cnd (f50_2 k a b r g s m) (decide (x < (4294967296 : Int))) false) (x.tmod (32 : Int) == (0 : Int)) false) (decide (p < (4294967296 : Int))) false) true false = true → (32 : Int) ≠ (0 : Int)
def f92_2 (k : Int) (a : Int) (b : Int) (r : Int) (g : Int) (s : Int) (m : Int) (x : Int) (p : Int) (d : Int) : Bool := cnd (cnd (cnd (cnd (cnd (cnd (f50_2 k a b r g s m) (decide (x < (4294967296 : Int))) false) (x.tmod (32 : Int) == (0 : Int)) false) (decide (p < (4294967296 : Int))) false) (p.tmod (32 : Int) == (0 : Int)) false) (decide (d ≥ (0 : Int))) false) (decide (d ≤ (4096 : Int))) false
theorem n92_0 (k : Int) (a : Int) (b : Int) (r : Int) (g : Int) (s : Int) (m : Int) (x : Int) (p : Int) (d : Int) : f92_0 k a b r g s m x p d := by
  simp only [f92_0, cnd_eq]
  grind (splits := 40)
theorem n92_1 (k : Int) (a : Int) (b : Int) (r : Int) (g : Int) (s : Int) (m : Int) (x : Int) (p : Int) (d : Int) : f92_1 k a b r g s m x p d := by
  simp only [f92_1, cnd_eq]
  grind (splits := 40)
def f92 : List SV → Option (Tr SV)
  | [.agg [.int .i64 k, .int .u64 a, .int .i64 b, .int .i64 r, .int .i64 g, .int .i64 s, .int .u64 m, .int .u64 x, .int .u64 p, .int .i64 d]] => some (Tr.leaf (SV.bool (f92_2 k a b r g s m x p d)))
  | _ => none
theorem s92 : Sound Try.prog th 92 (pureC f92) := pure_auto2 (us := us92) (nice := nice104) nok104 20 fun args t h => by
  unfold f92 at h
  split at h
  · rename_i k a b r g s m x p d
    cases h
    refine ⟨(Tr.need (f92_0 k a b r g s m x p d) (Tr.need (f92_1 k a b r g s m x p d) (Tr.leaf (SV.bool (f92_2 k a b r g s m x p d))))), by kernel_rfl, fun ok => ?_, rfl⟩
    first
    | (simp only [Tr.ok, n92_0, n92_1, true_and, and_true, forall_const, implies_true]; done)
    | (simp only [Tr.ok, n92_0, n92_1, true_and, and_true, forall_const, implies_true]; done)
    | (simpa only [Tr.ok, n92_0, n92_1, true_and, and_true, forall_const, implies_true] using ok; done)
    | (simp only [Tr.ok, n92_0, n92_1, true_and, and_true, forall_const, implies_true] at ok ⊢; grind)
  · cases h
noncomputable def nice92 : List (Nat × CF th.R) := (92, pureC f92) :: nice104
theorem nok92 : NiceOk Try.prog th nice92 := ⟨s92, nok104⟩
end Go.Sx.M

namespace Go.Sx.M
open Go Go.Sx Go.Proofs Go.RowKit
def us93 : List Un := [⟨173, [(2, 6)], [6]⟩, ⟨164, [(5, 7)], [15]⟩, ⟨46, [(4, 4)], [9]⟩]
def f93_0 (k : Int) (a : Int) (b : Int) (r : Int) (g : Int) (s : Int) (m : Int) (x : Int) (p : Int) (d : Int) : Prop := (true = true → (32 : Int) ≠ (0 : Int)) ∧ (true = true → (32 : Int) ≠ (0 : Int))
def f93_1 (k : Int) (a : Int) (b : Int) (r : Int) (g : Int) (s : Int) (m : Int) (x : Int) (p : Int) (d : Int) : Int := f160_2 k a b r g s m
def f93_2 (k : Int) (a : Int) (b : Int) (r : Int) (g : Int) (s : Int) (m : Int) (x : Int) (p : Int) (d : Int) : Int := IntKind.u64.wrap (IntKind.u64.wrap (x.tdiv (32 : Int)) + IntKind.u64.wrap (IntKind.u64.wrap (p.tdiv (32 : Int)) * (4294967296 : Int)))
def f93_3 (k : Int) (a : Int) (b : Int) (r : Int) (g : Int) (s : Int) (m : Int) (x : Int) (p : Int) (d : Int) : Int := IntKind.u64.wrap d
theorem n93_0 (k : Int) (a : Int) (b : Int) (r : Int) (g : Int) (s : Int) (m : Int) (x : Int) (p : Int) (d : Int) : f93_0 k a b r g s m x p d := by
  simp only [f93_0, cnd_eq]
  grind (splits := 40)
def f93 : List SV → Option (Tr SV)
  | [.agg [.int .i64 k, .int .u64 a, .int .i64 b, .int .i64 r, .int .i64 g, .int .i64 s, .int .u64 m, .int .u64 x, .int .u64 p, .int .i64 d]] => some (Tr.leaf (SV.agg [SV.int .u64 (f93_1 k a b r g s m x p d), SV.int .u64 (m), SV.int .u64 (f93_2 k a b r g s m x p d), SV.int .u64 (f93_3 k a b r g s m x p d)]))
  | _ => none
theorem s93 : Sound Try.prog th 93 (pureC f93) := pure_auto2 (us := us93) (nice := nice92) nok92 20 fun args t h => by
  unfold f93 at h
  split at h
  · rename_i k a b r g s m x p d
    cases h
    refine ⟨(Tr.need (f93_0 k a b r g s m x p d) (Tr.leaf (SV.agg [SV.int .u64 (f93_1 k a b r g s m x p d), SV.int .u64 (m), SV.int .u64 (f93_2 k a b r g s m x p d), SV.int .u64 (f93_3 k a b r g s m x p d)]))), by kernel_rfl, fun ok => ?_, rfl⟩
    first
    | (simp only [Tr.ok, n93_0, true_and, and_true, forall_const, implies_true]; done)
    | (simp only [Tr.ok, n93_0, true_and, and_true, forall_const, implies_true]; done)
    | (simpa only [Tr.ok, n93_0, true_and, and_true, forall_const, implies_true] using ok; done)
    | (simp only [Tr.ok, n93_0, true_and, and_true, forall_const, implies_true] at ok ⊢; grind)
  · cases h
noncomputable def nice93 : List (Nat × CF th.R) := (93, pureC f93) :: nice92
theorem nok93 : NiceOk Try.prog th nice93 := ⟨s93, nok92⟩
end Go.Sx.M

namespace Go.Sx.M
open Go Go.Sx Go.Proofs Go.RowKit
def us33 : List Un := [⟨173, [(2, 6)], [6]⟩, ⟨164, [(5, 7)], [15]⟩, ⟨46, [(4, 4)], [9]⟩]
def f33 : List SV → Option (Tr SV)
  | [.agg [.int .i64 k, .int .u64 a, .int .i64 b, .int .i64 r, .int .i64 g, .int .i64 s, .int .u64 m, .int .u64 x, .int .u64 p, .int .i64 d]] => some (Tr.leaf (SV.agg [SV.int .i64 (k), SV.int .u64 (a), SV.int .i64 (b), SV.int .i64 (r), SV.int .i64 (g), SV.int .i64 (s), SV.int .u64 (m), SV.int .u64 (x), SV.int .u64 (p), SV.int .i64 (d)]))
  | _ => none
theorem s33 : Sound Try.prog th 33 (pureC f33) := pure_auto (us := us33) (nice := nice93) nok93 20 fun args t h => by
  unfold f33 at h
  split at h
  · cases h; kernel_rfl
  · cases h
noncomputable def nice33 : List (Nat × CF th.R) := (33, pureC f33) :: nice93
theorem nok33 : NiceOk Try.prog th nice33 := ⟨s33, nok93⟩
end Go.Sx.M

namespace Go.Sx.M
open Go Go.Sx Go.Proofs Go.RowKit Go.Maps
set_option maxRecDepth 10000
def szM (M : Mem) : Int := M.size
def rdM (M : Mem) (a : Int) : Int := M.W a
def wrM (M : Mem) (a x : Int) : Mem := ⟨M.size, cnd (decide (errI M.size a = 0)) (upd M.W a x) M.W⟩
def newM (a : Int) : Mem := ⟨a, fun _ => 0⟩
theorem open_mem {K : Nat → Prop} {w0 w : World} {ρ : Env} {M : Mem} (I : Inv th K w0 ρ [.res M] w) {l : Loc} (hl : ρ[0]? = some l) :
    ∃ mb D S, l.off = 0 ∧ MemAt Try.prog 187 193 22 M l.blk w mb D S ∧ w.cell? ⟨l.blk, 0, none⟩ = some (.int .u64 M.size) ∧ w.cell? ⟨l.blk, 1, none⟩ = some (.map (some mb)) := by
  obtain ⟨l', F, hl', ⟨h0, mb, D, S, h, hf⟩, _, _⟩ := I.opens (n := 0) (o := .res M) rfl
  rw [hl] at hl'; cases hl'
  exact ⟨mb, D, S, h0, h, by simp [World.cell?, h.cells], by simp [World.cell?, h.cells]⟩
theorem zero190 (w : World) : (zeroValue 190).run Try.prog w = .ok (.pointer none) w := by kernel_rfl
theorem wf64 {a : Int} (h0 : 0 ≤ a) (h1 : a < 18446744073709551616) : (Lit.int .u64 a).wf = true := by
  simp only [Lit.wf, Bool.and_eq_true, decide_eq_true_eq]
  have e1 : IntKind.u64.min = 0 := by decide +kernel
  have e2 : IntKind.u64.max = 18446744073709551615 := by decide +kernel
  rw [e1, e2]; omega
theorem look_mem {w : World} {M : Mem} {b mb : Nat} {D : DataW Unit} {S : Int → Option Nat} (h : MemAt Try.prog 187 193 22 M b w mb D S) {p : Int} (h0 : 0 ≤ p) (h1 : p < 18446744073709551616) :
    (Instr.lookup 185 (.map (some mb)) (.int .u64 p) true).run Try.prog w = .ok (.tuple #[.pointer ((S p).map fun s => ⟨s, 0, none⟩), .bool (S p).isSome]) w :=
  h.look law22 Try.underlying185 Try.underlying22 (zero190 w) (wf64 h0 h1)
theorem cell_sheet {w : World} {M : Mem} {b mb : Nat} {D : DataW Unit} {S : Int → Option Nat} (h : MemAt Try.prog 187 193 22 M b w mb D S) {a : Int} (h8 : a % 8 = 0) {s : Nat} (hs : S (a / 4096) = some s) :
    w.cell? ⟨s, (a % 4096 / 8).toNat, none⟩ = some (.int .u64 (M.W a)) ∧ w.frozen? ⟨s, (a % 4096 / 8).toNat, none⟩ = false := by
  have hd := h.data _ s hs
  have hlt : (a % 4096 / 8).toNat < 512 := by omega
  have hg := sheet_get M.W (a / 4096) hlt
  rw [show a / 4096 * 4096 + 8 * (((a % 4096 / 8).toNat : Nat) : Int) = a by omega] at hg
  refine ⟨?_, ?_⟩
  · unfold World.cell?
    simp only [hd, List.getElem?_toArray, hg]
    rfl
  · unfold World.frozen?
    simp only [hd]
    simp
/-! ### Read -/
structure V74 where
  at_ : Int
  M : th.R
def A74 (v : V74) : List SV := [.ptr 0 0, .int .u64 v.at_]
def H74 (v : V74) : List (HO th.R) := [.res v.M]
def toV74 (v : V74) : List (Vl th.R) := [.i v.at_, .r v.M]
def ofV74 : List (Vl th.R) → Option V74
  | [.i a, .r M] => some ⟨a, M⟩
  | _ => none
def d74 : Ft := ⟨[.ptr 0 0, .int .u64], [.res]⟩
noncomputable def f74 (v : V74) : Tr (Fin th.R) := .need (0 ≤ v.at_ ∧ v.at_ < 18446744073709551616) (.leaf (.tup [.int .u64 (rdM v.M v.at_), .int .i64 (errI (szM v.M) v.at_)], [.res v.M], []))
theorem s74 : Sound Try.prog th 74 (fnC d74 ofV74 f74) := by
  refine fnC_direct (T := th) d74 A74 H74 toV74 (by kernel_rfl) (fun v => by kernel_rfl) ?_ ?_ (fun v _ => Nat.le_refl _) (fun v _ n hn _ => ?_)
  · intro l v h
    unfold ofV74 at h
    split at h
    · cases h; rfl
    · cases h
  · intro v hok K w0 ρ w vargs I hr
    obtain ⟨⟨g0, g1⟩, _⟩ := hok
    obtain ⟨x, xs, rfl, ⟨l, hl, rfl⟩, y, ys, rfl, hy, hys⟩ := hr
    have hy : y = .int .u64 v.at_ := hy
    have hys : ys = [] := hys
    subst hy hys
    obtain ⟨mb, D, S, h0, h, c0, c1⟩ := open_mem I hl
    rw [show l.off + 0 = 0 by omega]
    have hfin : ∀ (x : Int), x = rdM v.M v.at_ → ∀ e w', (e = Ending.returned (.tuple #[.int .u64 x, .int .i64 (errI v.M.size v.at_)]) ∧ w' = w) →
        ∃ ρ' cv, e = .returned cv ∧ Pre ρ ρ' ∧ Inv th K w0 ρ' (f74 v).get.2.1 w' ∧ Rel ρ' (f74 v).get.1 cv := by
      rintro x rfl e w' ⟨rfl, rfl⟩
      exact ⟨ρ, _, rfl, Pre.refl _, I, [_, _], rfl, _, _, rfl, rfl, _, _, rfl, rfl, rfl⟩
    by_cases he : errI v.M.size v.at_ = 0
    · obtain ⟨h8, hlt⟩ := errI_bad he
      have hlk := look_mem h (p := v.at_ / 4096) (by omega) (by omega)
      cases hS : S (v.at_ / 4096) with
      | none =>
        rw [hS] at hlk
        have := read_none w g0 g1 c0 c1 he hlk
        exact this.mono fun e w' hh => hfin 0 (h.word hS).symm e w' (by rw [he]; exact hh)
      | some s =>
        rw [hS] at hlk
        have := read_some w g0 g1 c0 c1 he hlk (cell_sheet h h8 hS).1
        exact this.mono fun e w' hh => hfin _ rfl e w' (by rw [he]; exact hh)
    · refine (read_err w g0 g1 c0 he).mono (hfin 0 ?_)
      show 0 = v.M.W v.at_
      refine Eq.symm (Decidable.byContradiction fun e => he ?_)
      have := h.ok.dom _ e
      exact errI_ok this.2.2 this.2.1
  · rfl
/-! ### Size -/
structure V156 where
  M : th.R
def A156 (v : V156) : List SV := [.ptr 0 0]
def H156 (v : V156) : List (HO th.R) := [.res v.M]
def toV156 (v : V156) : List (Vl th.R) := [.r v.M]
def ofV156 : List (Vl th.R) → Option V156
  | [.r M] => some ⟨M⟩
  | _ => none
def d156 : Ft := ⟨[.ptr 0 0], [.res]⟩
noncomputable def f156 (v : V156) : Tr (Fin th.R) := .leaf (.int .u64 (szM v.M), [.res v.M], [])
theorem s156 : Sound Try.prog th 156 (fnC d156 ofV156 f156) := by
  refine fnC_direct (T := th) d156 A156 H156 toV156 (by kernel_rfl) (fun v => by kernel_rfl) ?_ ?_ (fun v _ => Nat.le_refl _) (fun v _ n hn _ => rfl)
  · intro l v h
    unfold ofV156 at h
    split at h
    · cases h; rfl
    · cases h
  · intro v hok K w0 ρ w vargs I hr
    obtain ⟨x, xs, rfl, ⟨l, hl, rfl⟩, hxs⟩ := hr
    have hxs : xs = [] := hxs
    subst hxs
    obtain ⟨mb, D, S, h0, h, c0, c1⟩ := open_mem I hl
    rw [show l.off + 0 = 0 by omega]
    refine (size_ok w c0).mono ?_
    rintro e w' ⟨rfl, rfl⟩
    exact ⟨ρ, _, rfl, Pre.refl _, I, rfl⟩
/-! ### Write -/
theorem sheet_cells {w : World} {s n : Nat} {c : Array Value} {t : Nat} {v : Value} (h : w.heap[s]? = some (.cells c t (0, 0))) : (w.setCell ⟨s, n, none⟩ v).heap[s]? = some (.cells (c.setIfInBounds n v) t (0, 0)) := by
  unfold World.setCell
  simp [Array.getElem?_modify, h]
theorem write_good {w : World} {b : Nat} {a x : Int} (hmay : Calls Try.prog 145 #[.pointer (some ⟨b, 0, none⟩), .int .u64 a] w fun e w' => e = .returned (.int .i64 0) ∧ w' = w)
    {Q' : World → Prop} (hput : Calls Try.prog 146 #[.pointer (some ⟨b, 0, none⟩), .int .u64 a, .int .u64 x] w fun e w' => e = .returned (.tuple #[]) ∧ Q' w') :
    Calls Try.prog 72 #[.pointer (some ⟨b, 0, none⟩), .int .u64 a, .int .u64 x] w fun e w' => e = .returned (.int .i64 0) ∧ Q' w' := by
  go_enter Try.func72, Try.ntmps72
  go_wp2_with (first | (go_at_call 145; refine hmay.mono ?_; rintro e w' ⟨rfl, rfl⟩) | (go_at_call 146; refine hput.mono ?_; rintro e w' ⟨rfl, hq⟩) | go_in)
  go_ret
  exact ⟨rfl, hq⟩
theorem write_bad {w : World} {b : Nat} {a x : Int} {er : Int} (hmay : Calls Try.prog 145 #[.pointer (some ⟨b, 0, none⟩), .int .u64 a] w fun e w' => e = .returned (.int .i64 er) ∧ w' = w) (hne : er ≠ 0) :
    Calls Try.prog 72 #[.pointer (some ⟨b, 0, none⟩), .int .u64 a, .int .u64 x] w fun e w' => e = .returned (.int .i64 er) ∧ w' = w := by
  go_enter Try.func72, Try.ntmps72
  go_wp2_with (first | (go_at_call 145; refine hmay.mono ?_; rintro e w' ⟨rfl, rfl⟩) | go_in)
  all_goals (go_ret; exact ⟨rfl, rfl⟩)
theorem write_calls {w : World} {b : Nat} {a x : Int} {er : Int} {Q : Ending → World → Prop} (hmay : Calls Try.prog 145 #[.pointer (some ⟨b, 0, none⟩), .int .u64 a] w fun e w' => e = .returned (.int .i64 er) ∧ w' = w)
    (hbad : er ≠ 0 → Q (.returned (.int .i64 er)) w) {Q' : World → Prop} (hput : er = 0 → Calls Try.prog 146 #[.pointer (some ⟨b, 0, none⟩), .int .u64 a, .int .u64 x] w fun e w' => e = .returned (.tuple #[]) ∧ Q' w')
    (hgood : er = 0 → ∀ w', Q' w' → Q (.returned (.int .i64 0)) w') : Calls Try.prog 72 #[.pointer (some ⟨b, 0, none⟩), .int .u64 a, .int .u64 x] w Q := by
  by_cases he : er = 0
  · subst he
    exact (write_good hmay (hput rfl)).mono fun e w' h => by rw [h.1]; exact hgood rfl w' h.2
  · exact (write_bad hmay he).mono fun e w' h => by rw [h.1, h.2]; exact hbad he
structure V72 where
  at_ : Int
  x : Int
  M : th.R
def A72 (v : V72) : List SV := [.ptr 0 0, .int .u64 v.at_, .int .u64 v.x]
def H72 (v : V72) : List (HO th.R) := [.res v.M]
def toV72 (v : V72) : List (Vl th.R) := [.i v.at_, .i v.x, .r v.M]
def ofV72 : List (Vl th.R) → Option V72
  | [.i a, .i x, .r M] => some ⟨a, x, M⟩
  | _ => none
def d72 : Ft := ⟨[.ptr 0 0, .int .u64, .int .u64], [.res]⟩
noncomputable def f72 (v : V72) : Tr (Fin th.R) := .need ((0 ≤ v.at_ ∧ v.at_ < 18446744073709551616) ∧ 0 ≤ v.x ∧ v.x < 18446744073709551616) (.leaf (.int .i64 (errI (szM v.M) v.at_), [.res (wrM v.M v.at_ v.x)], [0]))
theorem s72 : Sound Try.prog th 72 (fnC d72 ofV72 f72) := by
  refine fnC_direct (T := th) d72 A72 H72 toV72 (by kernel_rfl) (fun v => by kernel_rfl) ?_ ?_ (fun v _ => Nat.le_refl _) (fun v _ n hn hd => ?_)
  · intro l v h
    unfold ofV72 at h
    split at h
    · cases h; rfl
    · cases h
  · intro v hok K w0 ρ w vargs I hr
    obtain ⟨⟨⟨g0, g1⟩, x0, x1⟩, _⟩ := hok
    obtain ⟨_, _, rfl, ⟨l, hl, rfl⟩, y, ys, rfl, hy, z, zs, rfl, hz, hzs⟩ := hr
    have hy : y = .int .u64 v.at_ := hy
    have hz : z = .int .u64 v.x := hz
    have hzs : zs = [] := hzs
    subst hy hz hzs
    obtain ⟨l', F, hl', ⟨h0, mb, D, S, h, hf⟩, hF, hcl⟩ := I.opens (n := 0) (o := .res v.M) rfl
    rw [hl] at hl'; cases hl'
    have c0 : w.cell? ⟨l.blk, 0, none⟩ = some (.int .u64 (Mem.size v.M)) := by simp [World.cell?, h.cells]
    have c1 : w.cell? ⟨l.blk, 1, none⟩ = some (.map (some mb)) := by simp [World.cell?, h.cells]
    rw [show l.off + 0 = 0 by omega]
    have fin : ∀ (M' : Mem) (w' : World) (er : Int), er = errI (Mem.size v.M) v.at_ → wrM v.M v.at_ v.x = M' → Inv th K w0 ρ [.res M'] w' → ∃ ρ' cv, Ending.returned (.int .i64 er) = .returned cv ∧ Pre ρ ρ' ∧ Inv th K w0 ρ' (f72 v).get.2.1 w' ∧ Rel ρ' (f72 v).get.1 cv := by
      rintro M' w' er rfl rfl I'
      exact ⟨ρ, _, rfl, Pre.refl _, I', rfl⟩
    refine write_calls (Q' := fun w' => Inv th K w0 ρ [.res (⟨Mem.size v.M, upd (Mem.W v.M) v.at_ v.x⟩ : Mem)] w') (may_ok (size := Mem.size v.M) w g0 g1 c0) ?_ ?_ ?_
    · intro he
      refine fin v.M w _ rfl ?_ I
      show wrM v.M v.at_ v.x = v.M
      unfold wrM
      rw [decide_eq_false he]; rfl
    · intro he
      obtain ⟨h8, hlt⟩ := errI_bad he
      have hlk := look_mem h (p := v.at_ / 4096) (by omega) (by omega)
      have hblt : l.blk < w.heap.size := (Array.getElem?_eq_some_iff.1 h.cells).1
      cases hS : S (v.at_ / 4096) with
      | some s =>
        rw [hS] at hlk
        have hc := cell_sheet h h8 hS
        have hd := h.data _ s hS
        refine (put_some (x := v.x) w g0 g1 c1 hlk hc.1 hc.2).mono ?_
        rintro e w' ⟨rfl, rfl⟩
        refine ⟨rfl, hcl _ _ F (Turns.setCell w ⟨s, _, none⟩ _ ((hf s).2 (.inr (.inr ⟨_, hS⟩)))) (fun i hi => .inl hi) ⟨h0, mb, D, S, ?_, hf⟩⟩
        refine h.put_old g0 hlt h8 ⟨x0, x1⟩ hS ?_ fun i hi => Below.heap_setCell _ _ _ _ hi
        rw [sheet_cells hd]
        simp
      | none =>
        rw [hS] at hlk
        by_cases hx : v.x = 0
        · have hu : upd (Mem.W v.M) v.at_ v.x = Mem.W v.M := by
            funext i
            by_cases e : i = v.at_
            · rw [e, upd_same, hx]; exact (h.word hS).symm
            · exact upd_other e
          rw [hu, hx]
          refine (put_zero w g0 g1 c1 hlk).mono ?_
          rintro e w' ⟨rfl, rfl⟩
          exact ⟨rfl, I⟩
        · obtain ⟨zs, hal, hzn, hzset⟩ := sheet0
          have hsm := h.small law22
          refine (put_none (x := v.x) hal hzn w g0 g1 hx c1 hlk h.map (by unfold maxLen; omega) hblt h.map.lt h.apart.1 (wf64 (by omega) (by omega))).mono ?_
          rintro e w' ⟨rfl, q1, q2, q3, q4⟩
          have hnew := h.put_new g0 hlt h8 ⟨x0, x1⟩ hS (Nat.le_refl _) (by rw [q1, hzset]) q2 q3 law22
          have hwlt : w.heap.size < w'.heap.size := (Array.getElem?_eq_some_iff.1 q1).1
          refine ⟨rfl, hcl _ _ (fun i => F i ∨ i = w.heap.size) (q4.mono fun i _ e => (hf i).2 (.inr (.inl e))) (fun i hi => hi.imp id fun e => ⟨by omega, by omega⟩) ⟨h0, mb, _, _, hnew, fun i => ?_⟩⟩
          show F i ∨ i = w.heap.size ↔ _
          rw [hf i]
          constructor
          · rintro ((e | e | ⟨p, e⟩) | e)
            · exact .inl e
            · exact .inr (.inl e)
            · refine .inr (.inr ⟨p, ?_⟩)
              have : p ≠ v.at_ / 4096 := fun e2 => by rw [e2, hS] at e; cases e
              rw [if_neg this]; exact e
            · exact .inr (.inr ⟨v.at_ / 4096, by rw [if_pos rfl, e]⟩)
          · rintro (e | e | ⟨p, e⟩)
            · exact .inl (.inl e)
            · exact .inl (.inr (.inl e))
            · by_cases e2 : p = v.at_ / 4096
              · rw [if_pos e2] at e; cases e; exact .inr rfl
              · rw [if_neg e2] at e; exact .inl (.inr (.inr ⟨p, e⟩))
    · intro he w' I'
      refine fin _ w' 0 he.symm ?_ I'
      unfold wrM
      rw [decide_eq_true he]; rfl
  · have hn : n < 1 := hn
    have : n = 0 := by omega
    subst this
    exact absurd List.mem_cons_self hd
/-! ### New -/
theorem ok_new {a : Int} (h : sizeOk a) : MemOk (newM a) := ⟨h.1, h.2.1, h.2.2, fun _ e => absurd rfl e, fun _ => ⟨Int.le_refl _, by show (0 : Int) < _; decide⟩⟩
theorem inv_new {K : Nat → Prop} {w0 w : World} {ρ : Env} {hp : List (HO th.R)} (I : Inv th K w0 ρ hp w) {a : Int} (h : sizeOk a) :
    Inv th K w0 (ρ ++ [⟨w.heap.size + 1, 0, false, 0⟩]) (hp ++ [.res (newM a)]) ((w.alloc (.map #[] 0)).alloc (.cells #[.int .u64 a, .map (some w.heap.size)] 187)) := by
  have s1 : (w.alloc (.map #[] 0)).heap.size = w.heap.size + 1 := Array.size_push ..
  have s2 : ((w.alloc (.map #[] 0)).alloc (.cells #[.int .u64 a, .map (some w.heap.size)] 187)).heap.size = w.heap.size + 2 := by
    show (Array.push _ _).size = _
    rw [Array.size_push, s1]
  have hm : ((w.alloc (.map #[] 0)).alloc (.cells #[.int .u64 a, .map (some w.heap.size)] 187)).ownsMap (H := Unit) Try.prog 22 ptrElem w.heap.size 0 (.map []) := (World.ownsMap_made w Try.prog 22 ptrElem).alloc _
  refine I.news ⟨w.heap.size + 1, 0, false, 0⟩ _ (fun i => i = w.heap.size ∨ i = w.heap.size + 1) ?_ (fun i hi => ?_) ?_
  · refine ⟨rfl, rfl, rfl, by omega, fun i hi _ => ?_, fun c => ?_⟩
    · rw [Below.heap_alloc _ _ _ (by omega), Below.heap_alloc _ _ _ hi]
    · rw [frozen?_alloc_cells, frozen?_alloc_map]
  · omega
  · refine ⟨rfl, w.heap.size, .map [], fun _ => none, ⟨ok_new h, ?_, hm, (fun p _ => rfl), (fun p s e => by cases e), (fun kl e => by cases e), (fun p q s e => by cases e), ⟨(by show w.heap.size + 1 ≠ _; omega), (fun p s e => by cases e)⟩, (fun p s e => by cases e), (fun p s e => by cases e), (fun a e => absurd rfl e)⟩, fun i => ?_⟩
    · show ((w.alloc (.map #[] 0)).alloc _).heap[w.heap.size + 1]? = _
      have := (MapKept.heap_alloc (w.alloc (.map #[] 0)) (.cells #[.int .u64 a, .map (some w.heap.size)] 187)).1
      rw [s1] at this
      exact this
    · constructor
      · rintro (e | e)
        · exact .inr (.inl e)
        · exact .inl e
      · rintro (e | e | ⟨p, e⟩)
        · exact .inr e
        · exact .inl e
        · cases e
structure V71 where
  a : Int
def A71 (v : V71) : List SV := [.int .u64 v.a]
def H71 (v : V71) : List (HO th.R) := []
def toV71 (v : V71) : List (Vl th.R) := [.i v.a]
def ofV71 : List (Vl th.R) → Option V71
  | [.i a] => some ⟨a⟩
  | _ => none
def d71 : Ft := ⟨[.int .u64], []⟩
noncomputable def f71 (v : V71) : Tr (Fin th.R) := .need (0 ≤ v.a ∧ v.a < 18446744073709551616) (.ite (decide (sizeOk v.a)) (.leaf (.tup [.ptr 0 0, .int .i64 0], [.res (newM v.a)], [])) (.leaf (.tup [.nilp, .int .i64 11], [], [])))
theorem s71 : Sound Try.prog th 71 (fnC d71 ofV71 f71) := by
  refine fnC_direct (T := th) d71 A71 H71 toV71 (by kernel_rfl) (fun v => by kernel_rfl) ?_ ?_ (fun v _ => Nat.zero_le _) (fun v _ n hn _ => absurd hn (Nat.not_lt_zero _))
  · intro l v h
    unfold ofV71 at h
    split at h
    · cases h; rfl
    · cases h
  · intro v hok K w0 ρ w vargs I hr
    obtain ⟨⟨g0, g1⟩, _⟩ := hok
    obtain ⟨y, ys, rfl, hy, hys⟩ := hr
    have hy : y = .int .u64 v.a := hy
    have hys : ys = [] := hys
    subst hy hys
    by_cases h : sizeOk v.a
    · refine (new_good w h).mono ?_
      rintro e w' ⟨rfl, rfl⟩
      have hf : (f71 v).get = (.tup [.ptr 0 0, .int .i64 0], [.res (newM v.a)], []) := by
        simp only [f71, Tr.get, decide_eq_true h]
      rw [hf]
      have hl : ρ.length = 0 := I.len
      have hρ : ρ = [] := List.eq_nil_of_length_eq_zero hl
      subst hρ
      exact ⟨_, _, rfl, ⟨_, rfl⟩, inv_new I h, [_, _], rfl, _, _, rfl, ⟨_, rfl, rfl⟩, _, _, rfl, rfl, rfl⟩
    · refine (new_bad w g0 g1 h).mono ?_
      rintro e w' ⟨rfl, rfl⟩
      have hf : (f71 v).get = (.tup [.nilp, .int .i64 11], [], []) := by
        simp only [f71, Tr.get, decide_eq_false h]
      rw [hf]
      exact ⟨ρ, _, rfl, Pre.refl _, I, [_, _], rfl, _, _, rfl, rfl, _, _, rfl, rfl, rfl⟩
/-- Of a size that is written out. -/
def lit3 (a : Int) : Bool := cnd (decide (a = 65536)) true (cnd (decide (a = 1048576)) true (decide (a = 2097152)))
noncomputable def C71l : CF th.R := fun args h => match args with
  | [.int .u64 a] => match lit3 a with
    | true => some (.leaf (.tup [.ptr h.length 0, .int .i64 0], h ++ [.res (newM a)], []))
    | false => none
  | _ => none
theorem s71l : Sound Try.prog th 71 C71l := by
  intro args h t e _
  unfold C71l at e
  split at e
  · rename_i a
    split at e
    · rename_i ha
      cases e
      have hs : sizeOk a := by
        have : a = 65536 ∨ a = 1048576 ∨ a = 2097152 := by
          unfold lit3 at ha
          by_cases h1 : a = 65536
          · exact .inl h1
          · by_cases h2 : a = 1048576
            · exact .inr (.inl h2)
            · simp [h1, h2, cnd] at ha
              exact .inr (.inr ha)
        rcases this with rfl | rfl | rfl <;> decide
      refine ⟨fun K w0 ρ w vargs I hr => ?_, by simp [Tr.get], fun n hn _ => by simp only [Tr.get]; rw [List.getElem?_append_left hn]⟩
      obtain ⟨y, ys, rfl, hy, hys⟩ := hr
      have hy : y = .int .u64 a := hy
      have hys : ys = [] := hys
      subst hy hys
      refine (new_good w hs).mono ?_
      rintro e w' ⟨rfl, rfl⟩
      have hl : ρ.length = h.length := I.len
      refine ⟨_, _, rfl, ⟨_, rfl⟩, inv_new I hs, [_, _], rfl, _, _, rfl, ⟨⟨w.heap.size + 1, 0, false, 0⟩, ?_, rfl⟩, _, _, rfl, rfl, rfl⟩
      rw [← hl, List.getElem?_append_right (Nat.le_refl _), Nat.sub_self]; rfl
    · cases e
  · cases e
noncomputable def niceph : List (Nat × CF th.R) := (74, lift (fnC d74 ofV74 f74)) :: (72, lift (fnC d72 ofV72 f72)) :: (156, lift (fnC d156 ofV156 f156)) :: (71, C71l) :: nice33
theorem nokph : NiceOk Try.prog th niceph := ⟨lift_sound s74, lift_sound s72, lift_sound s156, s71l, nok33⟩
end Go.Sx.M

namespace Go.Sx.M
open Go Go.Sx Go.Proofs Go.RowKit
set_option maxRecDepth 100000
structure V219 where
  x : Int
def A219 (v : V219) : List SV := [.int .u64 v.x]
def H219 (v : V219) : List (HO th.R) := []
def toV219 (v : V219) : List (Vl th.R) := [.i v.x]
def ofV219 : List (Vl th.R) → Option V219
  | [.i x] => some ⟨x⟩
  | _ => none
def d219 : Ft := ⟨[.int .u64], []⟩
noncomputable def f219_0 (v : V219) : (Bool) := v.x != v.x
noncomputable def ff219 (v : V219) : Tr (Fin th.R) := (Tr.leaf (SV.bool (f219_0 v), List.nil, List.nil))
noncomputable def f219 (v : V219) : Tr (Fin th.R) := (Tr.leaf (SV.bool (f219_0 v), List.nil, []))
noncomputable def C219 : CF th.R := fnC d219 ofV219 (f219 )
theorem q219 (v : V219) : (evFn th Try.prog (auto th Try.prog niceph [] 20) (autoH [] [] [] [] : Hints th) 219) (A219 v) (H219 v) = some (ff219 v) := by kernel_rfl
theorem qg219 (v : V219) : ((ff219 v).map (setD [])).get = (f219 v).get := by kernel_rfl
theorem qd219 (v : V219) : allD 0 [] (ff219 v) = true := by kernel_rfl
theorem s219 : Sound Try.prog th 219 (C219 ) := fnC_sound (evFn_sound' (T := th) (P := Try.prog) (tbl := (auto th Try.prog niceph [] 20)) (auto_sound (nice := niceph) (us := []) nokph 20) (H := (autoH [] [] [] [] : Hints th)) (k := 219) (fnLoops (LoopsOk_mem (fun _ => rfl) _ fun _ _ _ e => by cases e))) d219 A219 H219 toV219 (by kernel_rfl) (fun v => by kernel_rfl)
  (fun l v h => by
    unfold ofV219 at h
    split at h
    · cases h; rfl
    · cases h)
  [] (fun v => ⟨ff219 v, q219 v, id, qg219 v, qd219 v⟩)
theorem qdd219 (v : V219) : (f219 v).get.2.2 = [] := by
  rw [← qg219, Tr.map_get]; rfl
noncomputable def nice219 : List (Nat × CF th.R) := (219, lift C219) :: niceph
theorem nok219 : NiceOk Try.prog th nice219 := ⟨lift_sound s219, nokph⟩
end Go.Sx.M

namespace Go.Sx.M
open Go Go.Sx Go.Proofs Go.RowKit
set_option maxRecDepth 100000
structure V204 where
  x : Int
  y : Int
def A204 (v : V204) : List SV := [.int .u64 v.x, .int .u64 v.y]
def H204 (v : V204) : List (HO th.R) := []
def toV204 (v : V204) : List (Vl th.R) := [.i v.x, .i v.y]
def ofV204 : List (Vl th.R) → Option V204
  | [.i x, .i y] => some ⟨x, y⟩
  | _ => none
def d204 : Ft := ⟨[.int .u64, .int .u64], []⟩
noncomputable def f204_0 (v : V204) : (Bool) := cnd (cnd (f219_0 (V219.mk v.x)) (!f219_0 (V219.mk v.y)) false) true (decide (v.x < v.y))
noncomputable def ff204 (v : V204) : Tr (Fin th.R) := (Tr.leaf (SV.bool (f204_0 v), List.nil, List.nil))
noncomputable def f204 (v : V204) : Tr (Fin th.R) := (Tr.leaf (SV.bool (f204_0 v), List.nil, []))
noncomputable def C204 : CF th.R := fnC d204 ofV204 (f204 )
theorem q204 (v : V204) : (evFn th Try.prog (auto th Try.prog nice219 [] 20) (autoH [] [] [] [] : Hints th) 204) (A204 v) (H204 v) = some (ff204 v) := by kernel_rfl
theorem qg204 (v : V204) : ((ff204 v).map (setD [])).get = (f204 v).get := by kernel_rfl
theorem qd204 (v : V204) : allD 0 [] (ff204 v) = true := by kernel_rfl
theorem s204 : Sound Try.prog th 204 (C204 ) := fnC_sound (evFn_sound' (T := th) (P := Try.prog) (tbl := (auto th Try.prog nice219 [] 20)) (auto_sound (nice := nice219) (us := []) nok219 20) (H := (autoH [] [] [] [] : Hints th)) (k := 204) (fnLoops (LoopsOk_mem (fun _ => rfl) _ fun _ _ _ e => by cases e))) d204 A204 H204 toV204 (by kernel_rfl) (fun v => by kernel_rfl)
  (fun l v h => by
    unfold ofV204 at h
    split at h
    · cases h; rfl
    · cases h)
  [] (fun v => ⟨ff204 v, q204 v, id, qg204 v, qd204 v⟩)
theorem qdd204 (v : V204) : (f204 v).get.2.2 = [] := by
  rw [← qg204, Tr.map_get]; rfl
noncomputable def nice204 : List (Nat × CF th.R) := (204, lift C204) :: nice219
theorem nok204 : NiceOk Try.prog th nice204 := ⟨lift_sound s204, nok219⟩
end Go.Sx.M

namespace Go.Sx.M
open Go Go.Sx Go.Proofs Go.RowKit
set_option maxRecDepth 100000
structure V99 where
  at_ : Int
  M : th.R
def A99 (v : V99) : List SV := [.ptr 0 0, .int .u64 v.at_]
def H99 (v : V99) : List (HO th.R) := [.res v.M]
def toV99 (v : V99) : List (Vl th.R) := [.i v.at_, .r v.M]
def ofV99 : List (Vl th.R) → Option V99
  | [.i at_, .r M] => some ⟨at_, M⟩
  | _ => none
def d99 : Ft := ⟨[.ptr 0 0, .int .u64], [.res]⟩
noncomputable def f99_0 (v : V99) : (Int) := cnd (!f125_0 v.at_ (5 : Int)) (13 : Int) (cnd (decide (v.at_ ≥ szM v.M)) (12 : Int) (0 : Int))
noncomputable def ff99 (v : V99) : Tr (Fin th.R) := (Tr.leaf (SV.int .i64 (f99_0 v), [HO.res (v.M)], List.nil))
noncomputable def f99 (v : V99) : Tr (Fin th.R) := (Tr.leaf (SV.int .i64 (f99_0 v), [HO.res (v.M)], []))
noncomputable def C99 : CF th.R := fnC d99 ofV99 (f99 )
theorem q99 (v : V99) : (evFn th Try.prog (auto th Try.prog niceph [] 20) (autoH [] [] [] [] : Hints th) 99) (A99 v) (H99 v) = some (ff99 v) := by kernel_rfl
theorem qg99 (v : V99) : ((ff99 v).map (setD [])).get = (f99 v).get := by kernel_rfl
theorem qd99 (v : V99) : allD 1 [] (ff99 v) = true := by kernel_rfl
theorem s99 : Sound Try.prog th 99 (C99 ) := fnC_sound (evFn_sound' (T := th) (P := Try.prog) (tbl := (auto th Try.prog niceph [] 20)) (auto_sound (nice := niceph) (us := []) nokph 20) (H := (autoH [] [] [] [] : Hints th)) (k := 99) (fnLoops (LoopsOk_mem (fun _ => rfl) _ fun _ _ _ e => by cases e))) d99 A99 H99 toV99 (by kernel_rfl) (fun v => by kernel_rfl)
  (fun l v h => by
    unfold ofV99 at h
    split at h
    · cases h; rfl
    · cases h)
  [] (fun v => ⟨ff99 v, q99 v, id, qg99 v, qd99 v⟩)
theorem qdd99 (v : V99) : (f99 v).get.2.2 = [] := by
  rw [← qg99, Tr.map_get]; rfl
noncomputable def nice99 : List (Nat × CF th.R) := (99, lift C99) :: niceph
theorem nok99 : NiceOk Try.prog th nice99 := ⟨lift_sound s99, nokph⟩
end Go.Sx.M

namespace Go.Sx.M
open Go Go.Sx Go.Proofs Go.RowKit
set_option maxRecDepth 100000
structure V29 where
  at_ : Int
  M : th.R
def A29 (v : V29) : List SV := [.ptr 0 0, .int .u64 v.at_]
def H29 (v : V29) : List (HO th.R) := [.res v.M]
def toV29 (v : V29) : List (Vl th.R) := [.i v.at_, .r v.M]
def ofV29 : List (Vl th.R) → Option V29
  | [.i at_, .r M] => some ⟨at_, M⟩
  | _ => none
def d29 : Ft := ⟨[.ptr 0 0, .int .u64], [.res]⟩
theorem ok29 : LoopsOk th Try.prog (autoH [] [(6, 5)] [20] [] : Hints th) (bodyOf Try.prog 29) := autoH_ok (bs := [lpAt Try.prog 29 0]) (by kernel_rfl) fun b hb L hL => by
  simp only [List.mem_cons, List.not_mem_nil, or_false] at hb
  rcases hb with rfl
  · have e : lookL [] (firstReg (lpAt Try.prog 29 0)) = (none : Option (St th.R → Out th)) := by kernel_rfl
    rw [e] at hL; cases hL
noncomputable def f29_25 (v : V29) : (Bool) := f99_0 (V99.mk v.at_ v.M) != (0 : Int)
noncomputable def f29_26 (v : V29) : (Int) := IntKind.u64.wrap (v.at_ + (0 : Int))
noncomputable def f29_27 (v : V29) : (Int) := IntKind.u64.wrap (v.at_ + (8 : Int))
noncomputable def f29_28 (v : V29) : (Int) := IntKind.u64.wrap (v.at_ + (16 : Int))
noncomputable def f29_29 (v : V29) : (Int) := IntKind.u64.wrap (v.at_ + (24 : Int))
noncomputable def f29_30 (v : V29) : (Int) := rdM v.M (f29_26 v)
noncomputable def f29_31 (v : V29) : (Int) := rdM v.M (f29_27 v)
noncomputable def f29_32 (v : V29) : (Int) := rdM v.M (f29_28 v)
noncomputable def f29_33 (v : V29) : (Int) := rdM v.M (f29_29 v)
noncomputable def f29_34 (v : V29) : (Int) := [f29_30 v, f29_31 v, f29_32 v, f29_33 v].getD (3 : Nat) (0 : Int)
noncomputable def f29_35 (v : V29) : (Bool) := decide (f29_34 v ≤ (4096 : Int))
noncomputable def f29_36 (v : V29) : (Int) := [f29_30 v, f29_31 v, f29_32 v, f29_33 v].getD (0:Nat) (0 : Int)
noncomputable def f29_37 (v : V29) : (Int) := [f29_30 v, f29_31 v, f29_32 v, f29_33 v].getD (1 : Nat) (0 : Int)
noncomputable def f29_38 (v : V29) : (Int) := f100_3 (f29_36 v) (f29_37 v)
noncomputable def f29_39 (v : V29) : (Int) := cnd (f29_35 v) (f29_38 v) (f29_38 v)
noncomputable def f29_40 (v : V29) : (Int) := f100_4 (f29_36 v) (f29_37 v)
noncomputable def f29_41 (v : V29) : (Int) := cnd (f29_35 v) (f29_40 v) (f29_40 v)
noncomputable def f29_42 (v : V29) : (Int) := f100_5 (f29_36 v) (f29_37 v)
noncomputable def f29_43 (v : V29) : (Int) := cnd (f29_35 v) (f29_42 v) (f29_42 v)
noncomputable def f29_44 (v : V29) : (Int) := f100_6 (f29_36 v) (f29_37 v)
noncomputable def f29_45 (v : V29) : (Int) := cnd (f29_35 v) (f29_44 v) (f29_44 v)
noncomputable def f29_46 (v : V29) : (Int) := f100_7 (f29_36 v) (f29_37 v)
noncomputable def f29_47 (v : V29) : (Int) := cnd (f29_35 v) (f29_46 v) (f29_46 v)
noncomputable def f29_48 (v : V29) : (Int) := f100_8 (f29_36 v) (f29_37 v)
noncomputable def f29_49 (v : V29) : (Int) := cnd (f29_35 v) (f29_48 v) (f29_48 v)
noncomputable def f29_50 (v : V29) : (Int) := f100_9 (f29_36 v) (f29_37 v)
noncomputable def f29_51 (v : V29) : (Int) := cnd (f29_35 v) (f29_50 v) (f29_50 v)
noncomputable def f29_52 (v : V29) : (Int) := [f29_30 v, f29_31 v, f29_32 v, f29_33 v].getD (2 : Nat) (0 : Int)
noncomputable def f29_53 (v : V29) : (Int) := IntKind.u64.wrap (f102_1 (0 : Int) (27 : Int) (f29_52 v) * (32 : Int))
noncomputable def f29_54 (v : V29) : (Int) := cnd (f29_35 v) (f29_53 v) (f29_53 v)
noncomputable def f29_55 (v : V29) : (Int) := IntKind.u64.wrap (f102_1 (32 : Int) (27 : Int) (f29_52 v) * (32 : Int))
noncomputable def f29_56 (v : V29) : (Int) := cnd (f29_35 v) (f29_55 v) (f29_55 v)
noncomputable def f29_57 (v : V29) : (Int) := cnd (f29_35 v) (IntKind.i64.wrap (f29_34 v)) (0 : Int)
noncomputable def f29_0 (v : V29) : (Prop) := f29_25 v = false → (0 : Int) ≤ f29_26 v ∧ f29_26 v < (18446744073709551616 : Int)
noncomputable def f29_1 (v : V29) : (Prop) := f29_25 v = false → (0 : Int) ≤ (0 : Int) ∧ (0 : Int) < (4 : Int)
noncomputable def f29_2 (v : V29) : (Prop) := f29_25 v = false → (0 : Int) ≤ f29_27 v ∧ f29_27 v < (18446744073709551616 : Int)
noncomputable def f29_3 (v : V29) : (Prop) := f29_25 v = false → (0 : Int) ≤ (1 : Int) ∧ (1 : Int) < (4 : Int)
noncomputable def f29_4 (v : V29) : (Prop) := f29_25 v = false → (0 : Int) ≤ f29_28 v ∧ f29_28 v < (18446744073709551616 : Int)
noncomputable def f29_5 (v : V29) : (Prop) := f29_25 v = false → (0 : Int) ≤ (2 : Int) ∧ (2 : Int) < (4 : Int)
noncomputable def f29_6 (v : V29) : (Prop) := f29_25 v = false → (0 : Int) ≤ f29_29 v ∧ f29_29 v < (18446744073709551616 : Int)
noncomputable def f29_7 (v : V29) : (Prop) := f29_25 v = false → (0 : Int) ≤ (3 : Int) ∧ (3 : Int) < (4 : Int)
noncomputable def f29_8 (v : V29) : (Prop) := f29_25 v = false → (0:Nat) < (4 : Nat)
noncomputable def f29_9 (v : V29) : (Prop) := f29_25 v = false → (1 : Nat) < (4 : Nat)
noncomputable def f29_10 (v : V29) : (Prop) := f29_25 v = false → (true = true → (0 : Int) ≤ (2 : Int) ∧ (2 : Int) < (4 : Int)) ∧ (true = true → (2 : Nat) < (4 : Nat)) ∧ (true = true → (0 : Int) ≤ (5 : Int)) ∧ (true = true → (0 : Int) ≤ (2 : Int) ∧ (2 : Int) < (4 : Int)) ∧ (true = true → (2 : Nat) < (4 : Nat)) ∧ (true = true → (0 : Int) ≤ (5 : Int))
noncomputable def f29_11 (v : V29) : (Prop) := f29_25 v = false → (3 : Nat) < (4 : Nat)
noncomputable def f29_12 (v : V29) : (Prop) := f29_25 v = false → f29_35 v = true → (0 : Int) ≤ (3 : Int) ∧ (3 : Int) < (4 : Int)
noncomputable def f29_13 (v : V29) : (Prop) := f29_25 v = false → f29_35 v = true → (3 : Nat) < (4 : Nat)
noncomputable def f29_14 (v : V29) : (Int) := cnd (f29_25 v) (0 : Int) (cnd (cnd (cnd (f100_10 (f29_36 v) (f29_37 v) != (0 : Int)) true !f34_0 (f29_39 v) (f29_41 v) (f29_43 v) (f29_45 v) (f29_47 v) (f29_49 v) (f29_51 v) (f29_54 v) (f29_56 v) (f29_57 v)) true !(f104_2 (f29_39 v) (f29_41 v) (f29_43 v) (f29_45 v) (f29_47 v) (f29_49 v) (f29_51 v) (f29_54 v) (f29_56 v) (f29_57 v) == f29_30 v && (f104_3 (f29_39 v) (f29_41 v) (f29_43 v) (f29_45 v) (f29_47 v) (f29_49 v) (f29_51 v) (f29_54 v) (f29_56 v) (f29_57 v) == f29_31 v && (f104_4 (f29_39 v) (f29_41 v) (f29_43 v) (f29_45 v) (f29_47 v) (f29_49 v) (f29_51 v) (f29_54 v) (f29_56 v) (f29_57 v) == f29_32 v && (f104_5 (f29_39 v) (f29_41 v) (f29_43 v) (f29_45 v) (f29_47 v) (f29_49 v) (f29_51 v) (f29_54 v) (f29_56 v) (f29_57 v) == f29_33 v && true))))) (0 : Int) (f29_39 v))
noncomputable def f29_15 (v : V29) : (Int) := cnd (f29_25 v) (0 : Int) (cnd (cnd (cnd (f100_10 (f29_36 v) (f29_37 v) != (0 : Int)) true !f34_0 (f29_39 v) (f29_41 v) (f29_43 v) (f29_45 v) (f29_47 v) (f29_49 v) (f29_51 v) (f29_54 v) (f29_56 v) (f29_57 v)) true !(f104_2 (f29_39 v) (f29_41 v) (f29_43 v) (f29_45 v) (f29_47 v) (f29_49 v) (f29_51 v) (f29_54 v) (f29_56 v) (f29_57 v) == f29_30 v && (f104_3 (f29_39 v) (f29_41 v) (f29_43 v) (f29_45 v) (f29_47 v) (f29_49 v) (f29_51 v) (f29_54 v) (f29_56 v) (f29_57 v) == f29_31 v && (f104_4 (f29_39 v) (f29_41 v) (f29_43 v) (f29_45 v) (f29_47 v) (f29_49 v) (f29_51 v) (f29_54 v) (f29_56 v) (f29_57 v) == f29_32 v && (f104_5 (f29_39 v) (f29_41 v) (f29_43 v) (f29_45 v) (f29_47 v) (f29_49 v) (f29_51 v) (f29_54 v) (f29_56 v) (f29_57 v) == f29_33 v && true))))) (0 : Int) (f29_41 v))
noncomputable def f29_16 (v : V29) : (Int) := cnd (f29_25 v) (0 : Int) (cnd (cnd (cnd (f100_10 (f29_36 v) (f29_37 v) != (0 : Int)) true !f34_0 (f29_39 v) (f29_41 v) (f29_43 v) (f29_45 v) (f29_47 v) (f29_49 v) (f29_51 v) (f29_54 v) (f29_56 v) (f29_57 v)) true !(f104_2 (f29_39 v) (f29_41 v) (f29_43 v) (f29_45 v) (f29_47 v) (f29_49 v) (f29_51 v) (f29_54 v) (f29_56 v) (f29_57 v) == f29_30 v && (f104_3 (f29_39 v) (f29_41 v) (f29_43 v) (f29_45 v) (f29_47 v) (f29_49 v) (f29_51 v) (f29_54 v) (f29_56 v) (f29_57 v) == f29_31 v && (f104_4 (f29_39 v) (f29_41 v) (f29_43 v) (f29_45 v) (f29_47 v) (f29_49 v) (f29_51 v) (f29_54 v) (f29_56 v) (f29_57 v) == f29_32 v && (f104_5 (f29_39 v) (f29_41 v) (f29_43 v) (f29_45 v) (f29_47 v) (f29_49 v) (f29_51 v) (f29_54 v) (f29_56 v) (f29_57 v) == f29_33 v && true))))) (0 : Int) (f29_43 v))
noncomputable def f29_17 (v : V29) : (Int) := cnd (f29_25 v) (0 : Int) (cnd (cnd (cnd (f100_10 (f29_36 v) (f29_37 v) != (0 : Int)) true !f34_0 (f29_39 v) (f29_41 v) (f29_43 v) (f29_45 v) (f29_47 v) (f29_49 v) (f29_51 v) (f29_54 v) (f29_56 v) (f29_57 v)) true !(f104_2 (f29_39 v) (f29_41 v) (f29_43 v) (f29_45 v) (f29_47 v) (f29_49 v) (f29_51 v) (f29_54 v) (f29_56 v) (f29_57 v) == f29_30 v && (f104_3 (f29_39 v) (f29_41 v) (f29_43 v) (f29_45 v) (f29_47 v) (f29_49 v) (f29_51 v) (f29_54 v) (f29_56 v) (f29_57 v) == f29_31 v && (f104_4 (f29_39 v) (f29_41 v) (f29_43 v) (f29_45 v) (f29_47 v) (f29_49 v) (f29_51 v) (f29_54 v) (f29_56 v) (f29_57 v) == f29_32 v && (f104_5 (f29_39 v) (f29_41 v) (f29_43 v) (f29_45 v) (f29_47 v) (f29_49 v) (f29_51 v) (f29_54 v) (f29_56 v) (f29_57 v) == f29_33 v && true))))) (0 : Int) (f29_45 v))
noncomputable def f29_18 (v : V29) : (Int) := cnd (f29_25 v) (0 : Int) (cnd (cnd (cnd (f100_10 (f29_36 v) (f29_37 v) != (0 : Int)) true !f34_0 (f29_39 v) (f29_41 v) (f29_43 v) (f29_45 v) (f29_47 v) (f29_49 v) (f29_51 v) (f29_54 v) (f29_56 v) (f29_57 v)) true !(f104_2 (f29_39 v) (f29_41 v) (f29_43 v) (f29_45 v) (f29_47 v) (f29_49 v) (f29_51 v) (f29_54 v) (f29_56 v) (f29_57 v) == f29_30 v && (f104_3 (f29_39 v) (f29_41 v) (f29_43 v) (f29_45 v) (f29_47 v) (f29_49 v) (f29_51 v) (f29_54 v) (f29_56 v) (f29_57 v) == f29_31 v && (f104_4 (f29_39 v) (f29_41 v) (f29_43 v) (f29_45 v) (f29_47 v) (f29_49 v) (f29_51 v) (f29_54 v) (f29_56 v) (f29_57 v) == f29_32 v && (f104_5 (f29_39 v) (f29_41 v) (f29_43 v) (f29_45 v) (f29_47 v) (f29_49 v) (f29_51 v) (f29_54 v) (f29_56 v) (f29_57 v) == f29_33 v && true))))) (0 : Int) (f29_47 v))
noncomputable def f29_19 (v : V29) : (Int) := cnd (f29_25 v) (0 : Int) (cnd (cnd (cnd (f100_10 (f29_36 v) (f29_37 v) != (0 : Int)) true !f34_0 (f29_39 v) (f29_41 v) (f29_43 v) (f29_45 v) (f29_47 v) (f29_49 v) (f29_51 v) (f29_54 v) (f29_56 v) (f29_57 v)) true !(f104_2 (f29_39 v) (f29_41 v) (f29_43 v) (f29_45 v) (f29_47 v) (f29_49 v) (f29_51 v) (f29_54 v) (f29_56 v) (f29_57 v) == f29_30 v && (f104_3 (f29_39 v) (f29_41 v) (f29_43 v) (f29_45 v) (f29_47 v) (f29_49 v) (f29_51 v) (f29_54 v) (f29_56 v) (f29_57 v) == f29_31 v && (f104_4 (f29_39 v) (f29_41 v) (f29_43 v) (f29_45 v) (f29_47 v) (f29_49 v) (f29_51 v) (f29_54 v) (f29_56 v) (f29_57 v) == f29_32 v && (f104_5 (f29_39 v) (f29_41 v) (f29_43 v) (f29_45 v) (f29_47 v) (f29_49 v) (f29_51 v) (f29_54 v) (f29_56 v) (f29_57 v) == f29_33 v && true))))) (0 : Int) (f29_49 v))
noncomputable def f29_20 (v : V29) : (Int) := cnd (f29_25 v) (0 : Int) (cnd (cnd (cnd (f100_10 (f29_36 v) (f29_37 v) != (0 : Int)) true !f34_0 (f29_39 v) (f29_41 v) (f29_43 v) (f29_45 v) (f29_47 v) (f29_49 v) (f29_51 v) (f29_54 v) (f29_56 v) (f29_57 v)) true !(f104_2 (f29_39 v) (f29_41 v) (f29_43 v) (f29_45 v) (f29_47 v) (f29_49 v) (f29_51 v) (f29_54 v) (f29_56 v) (f29_57 v) == f29_30 v && (f104_3 (f29_39 v) (f29_41 v) (f29_43 v) (f29_45 v) (f29_47 v) (f29_49 v) (f29_51 v) (f29_54 v) (f29_56 v) (f29_57 v) == f29_31 v && (f104_4 (f29_39 v) (f29_41 v) (f29_43 v) (f29_45 v) (f29_47 v) (f29_49 v) (f29_51 v) (f29_54 v) (f29_56 v) (f29_57 v) == f29_32 v && (f104_5 (f29_39 v) (f29_41 v) (f29_43 v) (f29_45 v) (f29_47 v) (f29_49 v) (f29_51 v) (f29_54 v) (f29_56 v) (f29_57 v) == f29_33 v && true))))) (0 : Int) (f29_51 v))
noncomputable def f29_21 (v : V29) : (Int) := cnd (f29_25 v) (0 : Int) (cnd (cnd (cnd (f100_10 (f29_36 v) (f29_37 v) != (0 : Int)) true !f34_0 (f29_39 v) (f29_41 v) (f29_43 v) (f29_45 v) (f29_47 v) (f29_49 v) (f29_51 v) (f29_54 v) (f29_56 v) (f29_57 v)) true !(f104_2 (f29_39 v) (f29_41 v) (f29_43 v) (f29_45 v) (f29_47 v) (f29_49 v) (f29_51 v) (f29_54 v) (f29_56 v) (f29_57 v) == f29_30 v && (f104_3 (f29_39 v) (f29_41 v) (f29_43 v) (f29_45 v) (f29_47 v) (f29_49 v) (f29_51 v) (f29_54 v) (f29_56 v) (f29_57 v) == f29_31 v && (f104_4 (f29_39 v) (f29_41 v) (f29_43 v) (f29_45 v) (f29_47 v) (f29_49 v) (f29_51 v) (f29_54 v) (f29_56 v) (f29_57 v) == f29_32 v && (f104_5 (f29_39 v) (f29_41 v) (f29_43 v) (f29_45 v) (f29_47 v) (f29_49 v) (f29_51 v) (f29_54 v) (f29_56 v) (f29_57 v) == f29_33 v && true))))) (0 : Int) (f29_54 v))
noncomputable def f29_22 (v : V29) : (Int) := cnd (f29_25 v) (0 : Int) (cnd (cnd (cnd (f100_10 (f29_36 v) (f29_37 v) != (0 : Int)) true !f34_0 (f29_39 v) (f29_41 v) (f29_43 v) (f29_45 v) (f29_47 v) (f29_49 v) (f29_51 v) (f29_54 v) (f29_56 v) (f29_57 v)) true !(f104_2 (f29_39 v) (f29_41 v) (f29_43 v) (f29_45 v) (f29_47 v) (f29_49 v) (f29_51 v) (f29_54 v) (f29_56 v) (f29_57 v) == f29_30 v && (f104_3 (f29_39 v) (f29_41 v) (f29_43 v) (f29_45 v) (f29_47 v) (f29_49 v) (f29_51 v) (f29_54 v) (f29_56 v) (f29_57 v) == f29_31 v && (f104_4 (f29_39 v) (f29_41 v) (f29_43 v) (f29_45 v) (f29_47 v) (f29_49 v) (f29_51 v) (f29_54 v) (f29_56 v) (f29_57 v) == f29_32 v && (f104_5 (f29_39 v) (f29_41 v) (f29_43 v) (f29_45 v) (f29_47 v) (f29_49 v) (f29_51 v) (f29_54 v) (f29_56 v) (f29_57 v) == f29_33 v && true))))) (0 : Int) (f29_56 v))
noncomputable def f29_23 (v : V29) : (Int) := cnd (f29_25 v) (0 : Int) (cnd (cnd (cnd (f100_10 (f29_36 v) (f29_37 v) != (0 : Int)) true !f34_0 (f29_39 v) (f29_41 v) (f29_43 v) (f29_45 v) (f29_47 v) (f29_49 v) (f29_51 v) (f29_54 v) (f29_56 v) (f29_57 v)) true !(f104_2 (f29_39 v) (f29_41 v) (f29_43 v) (f29_45 v) (f29_47 v) (f29_49 v) (f29_51 v) (f29_54 v) (f29_56 v) (f29_57 v) == f29_30 v && (f104_3 (f29_39 v) (f29_41 v) (f29_43 v) (f29_45 v) (f29_47 v) (f29_49 v) (f29_51 v) (f29_54 v) (f29_56 v) (f29_57 v) == f29_31 v && (f104_4 (f29_39 v) (f29_41 v) (f29_43 v) (f29_45 v) (f29_47 v) (f29_49 v) (f29_51 v) (f29_54 v) (f29_56 v) (f29_57 v) == f29_32 v && (f104_5 (f29_39 v) (f29_41 v) (f29_43 v) (f29_45 v) (f29_47 v) (f29_49 v) (f29_51 v) (f29_54 v) (f29_56 v) (f29_57 v) == f29_33 v && true))))) (0 : Int) (f29_57 v))
noncomputable def f29_24 (v : V29) : (Int) := cnd (f29_25 v) (f99_0 (V99.mk v.at_ v.M)) (cnd (cnd (cnd (f100_10 (f29_36 v) (f29_37 v) != (0 : Int)) true !f34_0 (f29_39 v) (f29_41 v) (f29_43 v) (f29_45 v) (f29_47 v) (f29_49 v) (f29_51 v) (f29_54 v) (f29_56 v) (f29_57 v)) true !(f104_2 (f29_39 v) (f29_41 v) (f29_43 v) (f29_45 v) (f29_47 v) (f29_49 v) (f29_51 v) (f29_54 v) (f29_56 v) (f29_57 v) == f29_30 v && (f104_3 (f29_39 v) (f29_41 v) (f29_43 v) (f29_45 v) (f29_47 v) (f29_49 v) (f29_51 v) (f29_54 v) (f29_56 v) (f29_57 v) == f29_31 v && (f104_4 (f29_39 v) (f29_41 v) (f29_43 v) (f29_45 v) (f29_47 v) (f29_49 v) (f29_51 v) (f29_54 v) (f29_56 v) (f29_57 v) == f29_32 v && (f104_5 (f29_39 v) (f29_41 v) (f29_43 v) (f29_45 v) (f29_47 v) (f29_49 v) (f29_51 v) (f29_54 v) (f29_56 v) (f29_57 v) == f29_33 v && true))))) (10 : Int) (0 : Int))
theorem n_f29_1 (v : V29) : f29_1 v := by
  unfold f29_1
  first
    | (intros; rfl)
    | (intro i; rfl)
    | (intro i _; rfl)
    | (intro _ i; rfl)
    | (intro _ i _; rfl)
    | (refine ⟨?_, ?_⟩ <;> intro i <;> rfl)
    | (refine ⟨?_, ?_, ?_⟩ <;> intro i <;> rfl)
    | (refine ⟨?_, ?_⟩ <;> intro i _ <;> rfl)
    | (repeat' apply And.intro) <;> first | (intro i; rfl) | (intro i _; rfl) | (intro i h; exact absurd h (Nat.not_lt_zero i)) | (intro i; exact scpL_rowSet (by rfl) (by rfl)) | (intro i; exact scpL_rowEl (by kernel_rfl) _)
    | (intros; (repeat' apply And.intro) <;> intros <;> first | rfl | (exact absurd (by assumption) (Nat.not_lt_zero _)))
    | omega
    | decide
theorem n_f29_3 (v : V29) : f29_3 v := by
  unfold f29_3
  first
    | (intros; rfl)
    | (intro i; rfl)
    | (intro i _; rfl)
    | (intro _ i; rfl)
    | (intro _ i _; rfl)
    | (refine ⟨?_, ?_⟩ <;> intro i <;> rfl)
    | (refine ⟨?_, ?_, ?_⟩ <;> intro i <;> rfl)
    | (refine ⟨?_, ?_⟩ <;> intro i _ <;> rfl)
    | (repeat' apply And.intro) <;> first | (intro i; rfl) | (intro i _; rfl) | (intro i h; exact absurd h (Nat.not_lt_zero i)) | (intro i; exact scpL_rowSet (by rfl) (by rfl)) | (intro i; exact scpL_rowEl (by kernel_rfl) _)
    | (intros; (repeat' apply And.intro) <;> intros <;> first | rfl | (exact absurd (by assumption) (Nat.not_lt_zero _)))
    | omega
    | decide
theorem n_f29_5 (v : V29) : f29_5 v := by
  unfold f29_5
  first
    | (intros; rfl)
    | (intro i; rfl)
    | (intro i _; rfl)
    | (intro _ i; rfl)
    | (intro _ i _; rfl)
    | (refine ⟨?_, ?_⟩ <;> intro i <;> rfl)
    | (refine ⟨?_, ?_, ?_⟩ <;> intro i <;> rfl)
    | (refine ⟨?_, ?_⟩ <;> intro i _ <;> rfl)
    | (repeat' apply And.intro) <;> first | (intro i; rfl) | (intro i _; rfl) | (intro i h; exact absurd h (Nat.not_lt_zero i)) | (intro i; exact scpL_rowSet (by rfl) (by rfl)) | (intro i; exact scpL_rowEl (by kernel_rfl) _)
    | (intros; (repeat' apply And.intro) <;> intros <;> first | rfl | (exact absurd (by assumption) (Nat.not_lt_zero _)))
    | omega
    | decide
theorem n_f29_7 (v : V29) : f29_7 v := by
  unfold f29_7
  first
    | (intros; rfl)
    | (intro i; rfl)
    | (intro i _; rfl)
    | (intro _ i; rfl)
    | (intro _ i _; rfl)
    | (refine ⟨?_, ?_⟩ <;> intro i <;> rfl)
    | (refine ⟨?_, ?_, ?_⟩ <;> intro i <;> rfl)
    | (refine ⟨?_, ?_⟩ <;> intro i _ <;> rfl)
    | (repeat' apply And.intro) <;> first | (intro i; rfl) | (intro i _; rfl) | (intro i h; exact absurd h (Nat.not_lt_zero i)) | (intro i; exact scpL_rowSet (by rfl) (by rfl)) | (intro i; exact scpL_rowEl (by kernel_rfl) _)
    | (intros; (repeat' apply And.intro) <;> intros <;> first | rfl | (exact absurd (by assumption) (Nat.not_lt_zero _)))
    | omega
    | decide
theorem n_f29_8 (v : V29) : f29_8 v := by
  unfold f29_8
  first
    | (intros; rfl)
    | (intro i; rfl)
    | (intro i _; rfl)
    | (intro _ i; rfl)
    | (intro _ i _; rfl)
    | (refine ⟨?_, ?_⟩ <;> intro i <;> rfl)
    | (refine ⟨?_, ?_, ?_⟩ <;> intro i <;> rfl)
    | (refine ⟨?_, ?_⟩ <;> intro i _ <;> rfl)
    | (repeat' apply And.intro) <;> first | (intro i; rfl) | (intro i _; rfl) | (intro i h; exact absurd h (Nat.not_lt_zero i)) | (intro i; exact scpL_rowSet (by rfl) (by rfl)) | (intro i; exact scpL_rowEl (by kernel_rfl) _)
    | (intros; (repeat' apply And.intro) <;> intros <;> first | rfl | (exact absurd (by assumption) (Nat.not_lt_zero _)))
    | omega
    | decide
theorem n_f29_9 (v : V29) : f29_9 v := by
  unfold f29_9
  first
    | (intros; rfl)
    | (intro i; rfl)
    | (intro i _; rfl)
    | (intro _ i; rfl)
    | (intro _ i _; rfl)
    | (refine ⟨?_, ?_⟩ <;> intro i <;> rfl)
    | (refine ⟨?_, ?_, ?_⟩ <;> intro i <;> rfl)
    | (refine ⟨?_, ?_⟩ <;> intro i _ <;> rfl)
    | (repeat' apply And.intro) <;> first | (intro i; rfl) | (intro i _; rfl) | (intro i h; exact absurd h (Nat.not_lt_zero i)) | (intro i; exact scpL_rowSet (by rfl) (by rfl)) | (intro i; exact scpL_rowEl (by kernel_rfl) _)
    | (intros; (repeat' apply And.intro) <;> intros <;> first | rfl | (exact absurd (by assumption) (Nat.not_lt_zero _)))
    | omega
    | decide
theorem n_f29_10 (v : V29) : f29_10 v := by
  unfold f29_10
  first
    | (intros; rfl)
    | (intro i; rfl)
    | (intro i _; rfl)
    | (intro _ i; rfl)
    | (intro _ i _; rfl)
    | (refine ⟨?_, ?_⟩ <;> intro i <;> rfl)
    | (refine ⟨?_, ?_, ?_⟩ <;> intro i <;> rfl)
    | (refine ⟨?_, ?_⟩ <;> intro i _ <;> rfl)
    | (repeat' apply And.intro) <;> first | (intro i; rfl) | (intro i _; rfl) | (intro i h; exact absurd h (Nat.not_lt_zero i)) | (intro i; exact scpL_rowSet (by rfl) (by rfl)) | (intro i; exact scpL_rowEl (by kernel_rfl) _)
    | (intros; (repeat' apply And.intro) <;> intros <;> first | rfl | (exact absurd (by assumption) (Nat.not_lt_zero _)))
    | omega
    | decide
theorem n_f29_11 (v : V29) : f29_11 v := by
  unfold f29_11
  first
    | (intros; rfl)
    | (intro i; rfl)
    | (intro i _; rfl)
    | (intro _ i; rfl)
    | (intro _ i _; rfl)
    | (refine ⟨?_, ?_⟩ <;> intro i <;> rfl)
    | (refine ⟨?_, ?_, ?_⟩ <;> intro i <;> rfl)
    | (refine ⟨?_, ?_⟩ <;> intro i _ <;> rfl)
    | (repeat' apply And.intro) <;> first | (intro i; rfl) | (intro i _; rfl) | (intro i h; exact absurd h (Nat.not_lt_zero i)) | (intro i; exact scpL_rowSet (by rfl) (by rfl)) | (intro i; exact scpL_rowEl (by kernel_rfl) _)
    | (intros; (repeat' apply And.intro) <;> intros <;> first | rfl | (exact absurd (by assumption) (Nat.not_lt_zero _)))
    | omega
    | decide
theorem n_f29_12 (v : V29) : f29_12 v := by
  unfold f29_12
  first
    | (intros; rfl)
    | (intro i; rfl)
    | (intro i _; rfl)
    | (intro _ i; rfl)
    | (intro _ i _; rfl)
    | (refine ⟨?_, ?_⟩ <;> intro i <;> rfl)
    | (refine ⟨?_, ?_, ?_⟩ <;> intro i <;> rfl)
    | (refine ⟨?_, ?_⟩ <;> intro i _ <;> rfl)
    | (repeat' apply And.intro) <;> first | (intro i; rfl) | (intro i _; rfl) | (intro i h; exact absurd h (Nat.not_lt_zero i)) | (intro i; exact scpL_rowSet (by rfl) (by rfl)) | (intro i; exact scpL_rowEl (by kernel_rfl) _)
    | (intros; (repeat' apply And.intro) <;> intros <;> first | rfl | (exact absurd (by assumption) (Nat.not_lt_zero _)))
    | omega
    | decide
theorem n_f29_13 (v : V29) : f29_13 v := by
  unfold f29_13
  first
    | (intros; rfl)
    | (intro i; rfl)
    | (intro i _; rfl)
    | (intro _ i; rfl)
    | (intro _ i _; rfl)
    | (refine ⟨?_, ?_⟩ <;> intro i <;> rfl)
    | (refine ⟨?_, ?_, ?_⟩ <;> intro i <;> rfl)
    | (refine ⟨?_, ?_⟩ <;> intro i _ <;> rfl)
    | (repeat' apply And.intro) <;> first | (intro i; rfl) | (intro i _; rfl) | (intro i h; exact absurd h (Nat.not_lt_zero i)) | (intro i; exact scpL_rowSet (by rfl) (by rfl)) | (intro i; exact scpL_rowEl (by kernel_rfl) _)
    | (intros; (repeat' apply And.intro) <;> intros <;> first | rfl | (exact absurd (by assumption) (Nat.not_lt_zero _)))
    | omega
    | decide
noncomputable def ff29 (v : V29) : Tr (Fin th.R) := (Tr.need (f29_0 v) (Tr.need (f29_1 v) (Tr.need (f29_2 v) (Tr.need (f29_3 v) (Tr.need (f29_4 v) (Tr.need (f29_5 v) (Tr.need (f29_6 v) (Tr.need (f29_7 v) (Tr.need (f29_1 v) (Tr.need (f29_8 v) (Tr.need (f29_3 v) (Tr.need (f29_9 v) (Tr.need (f29_10 v) (Tr.need (f29_7 v) (Tr.need (f29_11 v) (Tr.need (f29_12 v) (Tr.need (f29_13 v) (Tr.leaf (SV.tup [SV.agg [SV.int .i64 (f29_14 v), SV.int .u64 (f29_15 v), SV.int .i64 (f29_16 v), SV.int .i64 (f29_17 v), SV.int .i64 (f29_18 v), SV.int .i64 (f29_19 v), SV.int .u64 (f29_20 v), SV.int .u64 (f29_21 v), SV.int .u64 (f29_22 v), SV.int .i64 (f29_23 v)], SV.int .i64 (f29_24 v)], [HO.res (v.M)], List.nil)))))))))))))))))))
noncomputable def f29 (v : V29) : Tr (Fin th.R) := (Tr.need (f29_0 v) (Tr.need (f29_2 v) (Tr.need (f29_4 v) (Tr.need (f29_6 v) (Tr.leaf (SV.tup [SV.agg [SV.int .i64 (f29_14 v), SV.int .u64 (f29_15 v), SV.int .i64 (f29_16 v), SV.int .i64 (f29_17 v), SV.int .i64 (f29_18 v), SV.int .i64 (f29_19 v), SV.int .u64 (f29_20 v), SV.int .u64 (f29_21 v), SV.int .u64 (f29_22 v), SV.int .i64 (f29_23 v)], SV.int .i64 (f29_24 v)], [HO.res (v.M)], []))))))
noncomputable def C29 : CF th.R := fnC d29 ofV29 (f29 )
theorem q29 (v : V29) : (evFn th Try.prog (auto th Try.prog nice99 [] 20) (autoH [] [(6, 5)] [20] [] : Hints th) 29) (A29 v) (H29 v) = some (ff29 v) := by kernel_rfl
theorem qg29 (v : V29) : ((ff29 v).map (setD [])).get = (f29 v).get := by kernel_rfl
theorem qd29 (v : V29) : allD 1 [] (ff29 v) = true := by kernel_rfl
theorem s29 : Sound Try.prog th 29 (C29 ) := fnC_sound (evFn_sound' (T := th) (P := Try.prog) (tbl := (auto th Try.prog nice99 [] 20)) (auto_sound (nice := nice99) (us := []) nok99 20) (H := (autoH [] [(6, 5)] [20] [] : Hints th)) (k := 29) (fnLoops ok29)) d29 A29 H29 toV29 (by kernel_rfl) (fun v => by kernel_rfl)
  (fun l v h => by
    unfold ofV29 at h
    split at h
    · cases h; rfl
    · cases h)
  [] (fun v => ⟨ff29 v, q29 v, fun h => by
    unfold f29 at h; unfold ff29
    simp only [Tr.ok, n_f29_1, n_f29_3, n_f29_5, n_f29_7, n_f29_8, n_f29_9, n_f29_10, n_f29_11, n_f29_12, n_f29_13, true_and, and_true, forall_const, implies_true] at h ⊢
    try exact h, qg29 v, qd29 v⟩)
theorem qdd29 (v : V29) : (f29 v).get.2.2 = [] := by
  rw [← qg29, Tr.map_get]; rfl
noncomputable def nice29 : List (Nat × CF th.R) := (29, lift C29) :: nice99
theorem nok29 : NiceOk Try.prog th nice29 := ⟨lift_sound s29, nok99⟩
end Go.Sx.M

namespace Go.Sx.M
open Go Go.Sx Go.Proofs Go.RowKit
set_option maxRecDepth 100000
structure V91 where
  at_ : Int
  k : Int
  a : Int
  b : Int
  r : Int
  g : Int
  s : Int
  m : Int
  x : Int
  p : Int
  d : Int
  M : th.R
def A91 (v : V91) : List SV := [.ptr 0 0, .int .u64 v.at_, .agg [.int .i64 v.k, .int .u64 v.a, .int .i64 v.b, .int .i64 v.r, .int .i64 v.g, .int .i64 v.s, .int .u64 v.m, .int .u64 v.x, .int .u64 v.p, .int .i64 v.d]]
def H91 (v : V91) : List (HO th.R) := [.res v.M]
def toV91 (v : V91) : List (Vl th.R) := [.i v.at_, .i v.k, .i v.a, .i v.b, .i v.r, .i v.g, .i v.s, .i v.m, .i v.x, .i v.p, .i v.d, .r v.M]
def ofV91 : List (Vl th.R) → Option V91
  | [.i at_, .i k, .i a, .i b, .i r, .i g, .i s, .i m, .i x, .i p, .i d, .r M] => some ⟨at_, k, a, b, r, g, s, m, x, p, d, M⟩
  | _ => none
def d91 : Ft := ⟨[.ptr 0 0, .int .u64, .agg [.int .i64, .int .u64, .int .i64, .int .i64, .int .i64, .int .i64, .int .u64, .int .u64, .int .u64, .int .i64]], [.res]⟩
theorem ok91 : LoopsOk th Try.prog (autoH [] [(7, 5)] [22] [] : Hints th) (bodyOf Try.prog 91) := autoH_ok (bs := [lpAt Try.prog 91 0]) (by kernel_rfl) fun b hb L hL => by
  simp only [List.mem_cons, List.not_mem_nil, or_false] at hb
  rcases hb with rfl
  · have e : lookL [] (firstReg (lpAt Try.prog 91 0)) = (none : Option (St th.R → Out th)) := by kernel_rfl
    rw [e] at hL; cases hL
noncomputable def f91_10 (v : V91) : (Bool) := f99_0 (V99.mk v.at_ v.M) != (0 : Int)
noncomputable def f91_11 (v : V91) : (Bool) := !f34_0 v.k v.a v.b v.r v.g v.s v.m v.x v.p v.d
noncomputable def f91_12 (v : V91) : (Int) := IntKind.u64.wrap (v.at_ + (0 : Int))
noncomputable def f91_13 (v : V91) : (Int) := [f104_2 v.k v.a v.b v.r v.g v.s v.m v.x v.p v.d, f104_3 v.k v.a v.b v.r v.g v.s v.m v.x v.p v.d, f104_4 v.k v.a v.b v.r v.g v.s v.m v.x v.p v.d, f104_5 v.k v.a v.b v.r v.g v.s v.m v.x v.p v.d].getD (0:Nat) (0 : Int)
noncomputable def f91_14 (v : V91) : (Int) := IntKind.u64.wrap (v.at_ + (8 : Int))
noncomputable def f91_15 (v : V91) : (Int) := [f104_2 v.k v.a v.b v.r v.g v.s v.m v.x v.p v.d, f104_3 v.k v.a v.b v.r v.g v.s v.m v.x v.p v.d, f104_4 v.k v.a v.b v.r v.g v.s v.m v.x v.p v.d, f104_5 v.k v.a v.b v.r v.g v.s v.m v.x v.p v.d].getD (1 : Nat) (0 : Int)
noncomputable def f91_16 (v : V91) : (Int) := IntKind.u64.wrap (v.at_ + (16 : Int))
noncomputable def f91_17 (v : V91) : (Int) := [f104_2 v.k v.a v.b v.r v.g v.s v.m v.x v.p v.d, f104_3 v.k v.a v.b v.r v.g v.s v.m v.x v.p v.d, f104_4 v.k v.a v.b v.r v.g v.s v.m v.x v.p v.d, f104_5 v.k v.a v.b v.r v.g v.s v.m v.x v.p v.d].getD (2 : Nat) (0 : Int)
noncomputable def f91_18 (v : V91) : (Int) := IntKind.u64.wrap (v.at_ + (24 : Int))
noncomputable def f91_19 (v : V91) : (Int) := [f104_2 v.k v.a v.b v.r v.g v.s v.m v.x v.p v.d, f104_3 v.k v.a v.b v.r v.g v.s v.m v.x v.p v.d, f104_4 v.k v.a v.b v.r v.g v.s v.m v.x v.p v.d, f104_5 v.k v.a v.b v.r v.g v.s v.m v.x v.p v.d].getD (3 : Nat) (0 : Int)
noncomputable def f91_0 (v : V91) : (Prop) := f91_10 v = false → f91_11 v = false → (0 : Int) ≤ (0 : Int) ∧ (0 : Int) < (4 : Int) ∧ (0:Nat) < (4 : Nat)
noncomputable def f91_1 (v : V91) : (Prop) := f91_10 v = false → f91_11 v = false → ((0 : Int) ≤ f91_12 v ∧ f91_12 v < (18446744073709551616 : Int)) ∧ (0 : Int) ≤ f91_13 v ∧ f91_13 v < (18446744073709551616 : Int)
noncomputable def f91_2 (v : V91) : (Prop) := f91_10 v = false → f91_11 v = false → (0 : Int) ≤ (1 : Int) ∧ (1 : Int) < (4 : Int) ∧ (1 : Nat) < (4 : Nat)
noncomputable def f91_3 (v : V91) : (Prop) := f91_10 v = false → f91_11 v = false → ((0 : Int) ≤ f91_14 v ∧ f91_14 v < (18446744073709551616 : Int)) ∧ (0 : Int) ≤ f91_15 v ∧ f91_15 v < (18446744073709551616 : Int)
noncomputable def f91_4 (v : V91) : (Prop) := f91_10 v = false → f91_11 v = false → (0 : Int) ≤ (2 : Int) ∧ (2 : Int) < (4 : Int) ∧ (2 : Nat) < (4 : Nat)
noncomputable def f91_5 (v : V91) : (Prop) := f91_10 v = false → f91_11 v = false → ((0 : Int) ≤ f91_16 v ∧ f91_16 v < (18446744073709551616 : Int)) ∧ (0 : Int) ≤ f91_17 v ∧ f91_17 v < (18446744073709551616 : Int)
noncomputable def f91_6 (v : V91) : (Prop) := f91_10 v = false → f91_11 v = false → (0 : Int) ≤ (3 : Int) ∧ (3 : Int) < (4 : Int) ∧ (3 : Nat) < (4 : Nat)
noncomputable def f91_7 (v : V91) : (Prop) := f91_10 v = false → f91_11 v = false → ((0 : Int) ≤ f91_18 v ∧ f91_18 v < (18446744073709551616 : Int)) ∧ (0 : Int) ≤ f91_19 v ∧ f91_19 v < (18446744073709551616 : Int)
noncomputable def f91_8 (v : V91) : (Int) := cnd (f91_10 v) (f99_0 (V99.mk v.at_ v.M)) (cnd (f91_11 v) (10 : Int) (0 : Int))
noncomputable def f91_9 (v : V91) : (Mem) := mrgM (f91_10 v) v.M (mrgM (f91_11 v) v.M (wrM (wrM (wrM (wrM v.M (f91_12 v) (f91_13 v)) (f91_14 v) (f91_15 v)) (f91_16 v) (f91_17 v)) (f91_18 v) (f91_19 v)))
theorem n_f91_0 (v : V91) : f91_0 v := by
  unfold f91_0
  first
    | (intros; rfl)
    | (intro i; rfl)
    | (intro i _; rfl)
    | (intro _ i; rfl)
    | (intro _ i _; rfl)
    | (refine ⟨?_, ?_⟩ <;> intro i <;> rfl)
    | (refine ⟨?_, ?_, ?_⟩ <;> intro i <;> rfl)
    | (refine ⟨?_, ?_⟩ <;> intro i _ <;> rfl)
    | (repeat' apply And.intro) <;> first | (intro i; rfl) | (intro i _; rfl) | (intro i h; exact absurd h (Nat.not_lt_zero i)) | (intro i; exact scpL_rowSet (by rfl) (by rfl)) | (intro i; exact scpL_rowEl (by kernel_rfl) _)
    | (intros; (repeat' apply And.intro) <;> intros <;> first | rfl | (exact absurd (by assumption) (Nat.not_lt_zero _)))
    | omega
    | decide
theorem n_f91_2 (v : V91) : f91_2 v := by
  unfold f91_2
  first
    | (intros; rfl)
    | (intro i; rfl)
    | (intro i _; rfl)
    | (intro _ i; rfl)
    | (intro _ i _; rfl)
    | (refine ⟨?_, ?_⟩ <;> intro i <;> rfl)
    | (refine ⟨?_, ?_, ?_⟩ <;> intro i <;> rfl)
    | (refine ⟨?_, ?_⟩ <;> intro i _ <;> rfl)
    | (repeat' apply And.intro) <;> first | (intro i; rfl) | (intro i _; rfl) | (intro i h; exact absurd h (Nat.not_lt_zero i)) | (intro i; exact scpL_rowSet (by rfl) (by rfl)) | (intro i; exact scpL_rowEl (by kernel_rfl) _)
    | (intros; (repeat' apply And.intro) <;> intros <;> first | rfl | (exact absurd (by assumption) (Nat.not_lt_zero _)))
    | omega
    | decide
theorem n_f91_4 (v : V91) : f91_4 v := by
  unfold f91_4
  first
    | (intros; rfl)
    | (intro i; rfl)
    | (intro i _; rfl)
    | (intro _ i; rfl)
    | (intro _ i _; rfl)
    | (refine ⟨?_, ?_⟩ <;> intro i <;> rfl)
    | (refine ⟨?_, ?_, ?_⟩ <;> intro i <;> rfl)
    | (refine ⟨?_, ?_⟩ <;> intro i _ <;> rfl)
    | (repeat' apply And.intro) <;> first | (intro i; rfl) | (intro i _; rfl) | (intro i h; exact absurd h (Nat.not_lt_zero i)) | (intro i; exact scpL_rowSet (by rfl) (by rfl)) | (intro i; exact scpL_rowEl (by kernel_rfl) _)
    | (intros; (repeat' apply And.intro) <;> intros <;> first | rfl | (exact absurd (by assumption) (Nat.not_lt_zero _)))
    | omega
    | decide
theorem n_f91_6 (v : V91) : f91_6 v := by
  unfold f91_6
  first
    | (intros; rfl)
    | (intro i; rfl)
    | (intro i _; rfl)
    | (intro _ i; rfl)
    | (intro _ i _; rfl)
    | (refine ⟨?_, ?_⟩ <;> intro i <;> rfl)
    | (refine ⟨?_, ?_, ?_⟩ <;> intro i <;> rfl)
    | (refine ⟨?_, ?_⟩ <;> intro i _ <;> rfl)
    | (repeat' apply And.intro) <;> first | (intro i; rfl) | (intro i _; rfl) | (intro i h; exact absurd h (Nat.not_lt_zero i)) | (intro i; exact scpL_rowSet (by rfl) (by rfl)) | (intro i; exact scpL_rowEl (by kernel_rfl) _)
    | (intros; (repeat' apply And.intro) <;> intros <;> first | rfl | (exact absurd (by assumption) (Nat.not_lt_zero _)))
    | omega
    | decide
noncomputable def ff91 (v : V91) : Tr (Fin th.R) := (Tr.need (f91_0 v) (Tr.need (f91_1 v) (Tr.need (f91_2 v) (Tr.need (f91_3 v) (Tr.need (f91_4 v) (Tr.need (f91_5 v) (Tr.need (f91_6 v) (Tr.need (f91_7 v) (Tr.leaf (SV.int .i64 (f91_8 v), [HO.res (f91_9 v)], [(0:Nat), (0:Nat), (0:Nat), (0:Nat)]))))))))))
noncomputable def f91 (v : V91) : Tr (Fin th.R) := (Tr.need (f91_1 v) (Tr.need (f91_3 v) (Tr.need (f91_5 v) (Tr.need (f91_7 v) (Tr.leaf (SV.int .i64 (f91_8 v), [HO.res (f91_9 v)], [0]))))))
noncomputable def C91 : CF th.R := fnC d91 ofV91 (f91 )
theorem q91 (v : V91) : (evFn th Try.prog (auto th Try.prog nice29 [] 20) (autoH [] [(7, 5)] [22] [] : Hints th) 91) (A91 v) (H91 v) = some (ff91 v) := by kernel_rfl
theorem qg91 (v : V91) : ((ff91 v).map (setD [0])).get = (f91 v).get := by kernel_rfl
theorem qd91 (v : V91) : allD 1 [0] (ff91 v) = true := by kernel_rfl
theorem s91 : Sound Try.prog th 91 (C91 ) := fnC_sound (evFn_sound' (T := th) (P := Try.prog) (tbl := (auto th Try.prog nice29 [] 20)) (auto_sound (nice := nice29) (us := []) nok29 20) (H := (autoH [] [(7, 5)] [22] [] : Hints th)) (k := 91) (fnLoops ok91)) d91 A91 H91 toV91 (by kernel_rfl) (fun v => by kernel_rfl)
  (fun l v h => by
    unfold ofV91 at h
    split at h
    · cases h; rfl
    · cases h)
  [0] (fun v => ⟨ff91 v, q91 v, fun h => by
    unfold f91 at h; unfold ff91
    simp only [Tr.ok, n_f91_0, n_f91_2, n_f91_4, n_f91_6, true_and, and_true, forall_const, implies_true] at h ⊢
    try exact h, qg91 v, qd91 v⟩)
theorem qdd91 (v : V91) : (f91 v).get.2.2 = [0] := by
  rw [← qg91, Tr.map_get]; rfl
noncomputable def nice91 : List (Nat × CF th.R) := (91, lift C91) :: nice29
theorem nok91 : NiceOk Try.prog th nice91 := ⟨lift_sound s91, nok29⟩
end Go.Sx.M

namespace Go.Sx.M
open Go Go.Sx

theorem u64_range {n : Int} (h : (Lit.int .u64 n).wf = true) : 0 ≤ n ∧ n < 18446744073709551616 := by
  simp only [Lit.wf, Bool.and_eq_true, decide_eq_true_eq] at h
  have e1 : IntKind.u64.min = 0 := by decide +kernel
  have e2 : IntKind.u64.max = 18446744073709551615 := by decide +kernel
  rw [e1, e2] at h
  omega
theorem i64_range {n : Int} (h : (Lit.int .i64 n).wf = true) : -9223372036854775808 ≤ n ∧ n < 9223372036854775808 := by
  simp only [Lit.wf, Bool.and_eq_true, decide_eq_true_eq] at h
  have e1 : IntKind.i64.min = -9223372036854775808 := by decide +kernel
  have e2 : IntKind.i64.max = 9223372036854775807 := by decide +kernel
  rw [e1, e2] at h
  omega
/-- The word whose lowest bits are 1. -/
theorem ones_eq {n : Int} (h0 : 0 ≤ n) (h1 : n ≤ 63) : f123_1 n = p26 n.toNat - 1 := by
  by_cases h : n < 1
  · have : n = 0 := by omega
    subst this
    decide +kernel
  · have e1 : decide (n < 1) = false := by simpa using h
    have e2 : decide (n ≥ 64) = false := by simp; omega
    have e3 : min n.toNat IntKind.u64.bits = n.toNat := by simp only [IntKind.bits]; omega
    have e4 : (2 : Int) ^ n.toNat = p26 n.toNat := by rw [p26_eq (by omega)]; simp
    have h5 := p26_pos (n := n.toNat) (by omega)
    have h6 : p26 n.toNat < 18446744073709551616 := by unfold p26; omega
    simp only [f123_1, e1, e2, cnd, e3, Int.one_mul, e4]
    rw [wrap_u64_id (x := p26 n.toNat) (by omega) (by omega), wrap_u64_id (by omega) (by omega)]
theorem p26_le {n m : Nat} (h : n ≤ m) (hm : m ≤ 63) : p26 n ≤ p26 m := by
  rw [p26_eq (by omega), p26_eq hm]
  exact Int.ofNat_le.2 (Nat.pow_le_pow_right (by omega) h)
/-- Aligned: the rest of a division is nothing. -/
theorem aligned_eq {a n : Int} (ha : 0 ≤ a) (ha2 : a < 18446744073709551616) (h0 : 0 ≤ n) (h1 : n ≤ 63) : f125_0 a n = (a % p26 n.toNat == 0) := by
  obtain ⟨m, rfl⟩ : ∃ m : Nat, a = m := ⟨a.toNat, by omega⟩
  have hp := p26_eq (n := n.toNat) (by omega)
  have hpos : 0 < 2 ^ n.toNat := Nat.pow_pos (by omega)
  have hle : 2 ^ n.toNat ≤ 2 ^ 63 := Nat.pow_le_pow_right (by omega) (by omega)
  have e : p26 n.toNat - 1 = ((2 ^ n.toNat - 1 : Nat) : Int) := by rw [hp]; omega
  simp only [f125_0, ones_eq h0 h1, e]
  rw [u64_and_nat m _ (by omega) (by have : (2:Nat)^63 = 9223372036854775808 := by decide
                                     omega), Nat.and_two_pow_sub_one_eq_mod, hp]
  rfl
end Go.Sx.M

namespace Go.Sx.M
open Go Go.Sx

theorem halves_eq {w : Nat} (hw : w < 18446744073709551616) : ∀ j, halves (w : Int) j = ((w / 2 ^ j : Nat) : Int)
  | 0 => by simp [halves]
  | j + 1 => by
    have hle : w / 2 ^ j ≤ w := Nat.div_le_self _ _
    rw [halves, halves_eq hw j]
    have e : ((w / 2 ^ j : Nat) : Int).tdiv 2 = ((w / 2 ^ j / 2 : Nat) : Int) := rfl
    have h2 : w / 2 ^ j / 2 ≤ w := Nat.le_trans (Nat.div_le_self _ _) hle
    rw [e, wrap_u64_id (Int.natCast_nonneg _) (by omega), Nat.div_div_eq_div_mul, ← Nat.pow_succ]
theorem bitI_eq {w : Nat} (hw : w < 18446744073709551616) (j : Nat) : bitI (w : Int) j = Nat.testBit w j := by
  have e : ((w / 2 ^ j : Nat) : Int).tmod 2 = ((w / 2 ^ j % 2 : Nat) : Int) := rfl
  rw [bitI, halves_eq hw, e, Nat.testBit_eq_decide_div_mod_eq]
  by_cases h : w / 2 ^ j % 2 = 1
  · simp [h]
  · have : w / 2 ^ j % 2 = 0 := by omega
    simp [this]
theorem word_step {f : Nat → Bool} {w : Nat} (hw : w < 18446744073709551616) (hf : ∀ j, j < 64 → f j = Nat.testBit w j) : ∀ i, i ≤ 64 → word67 f i = ((w / 2 ^ (64 - i) : Nat) : Int)
  | 0, _ => by
    have : w / 2 ^ 64 = 0 := Nat.div_eq_of_lt (by simpa using hw)
    simp only [word67, Nat.sub_zero, this]
    rfl
  | i + 1, h => by
    have ih := word_step hw hf i (by omega)
    have hc := cd67_eq (n := i) (by omega)
    have hs : sel67 f (cd67 i).toNat = Nat.testBit w (63 - i) := by
      have e : (cd67 i).toNat = 63 - i := by rw [hc]; omega
      rw [e, ← hf (63 - i) (by omega)]
      unfold sel67
      have : 63 - i < 64 := by omega
      simp [List.getD_eq_getElem?_getD, this]
    have hp : 2 ^ (64 - i) = 2 ^ (63 - i) * 2 := by rw [← Nat.pow_succ]; congr 1; omega
    have hq : w / 2 ^ (64 - i) = w / 2 ^ (63 - i) / 2 := by rw [hp, Nat.div_div_eq_div_mul]
    have hle : w / 2 ^ (63 - i) ≤ w := Nat.div_le_self _ _
    rw [word67, ih, hs, Nat.testBit_eq_decide_div_mod_eq, show 64 - (i + 1) = 63 - i by omega, hq]
    generalize w / 2 ^ (63 - i) = q at *
    rw [wrap_u64_id (x := ((q / 2 : Nat) : Int) * 2) (by omega) (by omega), wrap_u64_id (by omega) (by omega), cnd_eq]
    by_cases hb : q % 2 = 1
    · simp only [hb, decide_true, if_true]; omega
    · simp only [hb, decide_false, Bool.false_eq_true, if_false]; omega
theorem wordI_eq {f : Nat → Bool} {w : Nat} (hw : w < 18446744073709551616) (hf : ∀ j, j < 64 → f j = Nat.testBit w j) : wordI f = w := by
  have := word_step hw hf 64 (Nat.le_refl _)
  rw [Nat.sub_self, Nat.pow_zero, Nat.div_one] at this
  exact this
theorem downI_eq {w : Nat} (hw : w < 18446744073709551616) (n : Int) : downI (w : Int) n = ((w / 2 ^ (min n.toNat 64) * 2 ^ (min n.toNat 64) : Nat) : Int) := by
  generalize hN : min n.toNat 64 = N
  have hle : w / 2 ^ N * 2 ^ N ≤ w := Nat.div_mul_le_self _ _
  refine wordI_eq (by omega) fun j hj => ?_
  rw [down72, hN, bitI_eq hw]
  have e : w / 2 ^ N * 2 ^ N = (w >>> N) <<< N := by rw [Nat.shiftLeft_eq, Nat.shiftRight_eq_div_pow]
  rw [e, Nat.testBit_shiftLeft, Nat.testBit_shiftRight]
  by_cases h : j < N
  · have : ¬ j ≥ N := by omega
    simp [h, this]
  · have h2 : j ≥ N := by omega
    simp only [h, if_false, h2, decide_true, Bool.true_and]
    congr 1
    omega
theorem getI_eq {w : Nat} (hw : w < 18446744073709551616) {lo wi : Int} (h0 : 0 ≤ lo) (h1 : lo + wi ≤ 64) : getI (w : Int) lo wi = ((w / 2 ^ lo.toNat % 2 ^ wi.toNat : Nat) : Int) := by
  have hle : w / 2 ^ lo.toNat % 2 ^ wi.toNat ≤ w := Nat.le_trans (Nat.mod_le _ _) (Nat.div_le_self _ _)
  refine wordI_eq (by omega) fun j hj => ?_
  rw [get54, Nat.testBit_mod_two_pow, ← Nat.shiftRight_eq_div_pow, Nat.testBit_shiftRight, bitI_eq hw]
  by_cases h : j < wi.toNat <;> simp [h]
/-- With the lowest bits struck. -/
theorem andNot_ones {w : Nat} (hw : w < 18446744073709551616) {n : Int} (h0 : 0 ≤ n) (h1 : n ≤ 63) : Go.bits .andNot .u64 (w : Int) (f123_1 n) = ((w / 2 ^ n.toNat * 2 ^ n.toNat : Nat) : Int) := by
  have hp := p26_eq (n := n.toNat) (by omega)
  have hpos : 0 < 2 ^ n.toNat := Nat.pow_pos (by omega)
  have hle : 2 ^ n.toNat ≤ 2 ^ 63 := Nat.pow_le_pow_right (by omega) (by omega)
  have h63 : (2 : Nat) ^ 63 = 9223372036854775808 := by decide
  have h64 : (2 : Nat) ^ 64 = 18446744073709551616 := by decide
  have e : p26 n.toNat - 1 = ((2 ^ n.toNat - 1 : Nat) : Int) := by rw [hp]; omega
  rw [ones_eq h0 h1, e, u64_andNot_nat w _ hw (by omega)]
  congr 1
  apply Nat.eq_of_testBit_eq
  intro j
  have e1 : 18446744073709551615 - (2 ^ n.toNat - 1) = 2 ^ 64 - ((2 ^ n.toNat - 1) + 1) := by omega
  have e2 : w / 2 ^ n.toNat * 2 ^ n.toNat = (w >>> n.toNat) <<< n.toNat := by rw [Nat.shiftLeft_eq, Nat.shiftRight_eq_div_pow]
  rw [e1, e2, Nat.testBit_and, Nat.testBit_two_pow_sub_succ (by omega), Nat.testBit_two_pow_sub_one, Nat.testBit_shiftLeft, Nat.testBit_shiftRight]
  by_cases h : j < n.toNat
  · have : ¬ j ≥ n.toNat := by omega
    simp [h, this]
  · have h2 : j ≥ n.toNat := by omega
    have h3 : n.toNat + (j - n.toNat) = j := by omega
    simp only [h, h2, h3, decide_true, decide_false, Bool.not_false, Bool.and_true, Bool.true_and]
    by_cases h4 : j < 64
    · simp [h4]
    · have : w.testBit j = false := Nat.testBit_lt_two_pow (Nat.lt_of_lt_of_le (by omega) (Nat.pow_le_pow_right (n := 2) (i := 64) (by omega) (by omega)))
      simp [this]
end Go.Sx.M

namespace Go.Sx.M
open Go Go.Sx

theorem right_size {k a b r g s m : Int} (h : f172_1 k b = false) : f45_1 k a b r g s m = false := by
  have h1 : f120_0 k a b r g s m = false := by
    simp only [f120_0, h, cnd_eq]
    grind
  simp only [f45_1, h1, cnd_eq]
  grind
theorem rt1 : ∀ n : Nat, n < 33 → 5 ≤ n → f45_1 1 0 n 0 0 0 0 = true := by decide +kernel
theorem rt2 : ∀ n : Nat, n < 13 → 1 ≤ n → f45_1 2 0 n 0 0 0 0 = true := by decide +kernel
theorem rt3a : f45_1 3 0 12 7 0 0 0 = true := by decide +kernel
theorem rt3b : f45_1 3 0 21 7 0 0 0 = true := by decide +kernel
theorem rt3c : f45_1 3 0 30 7 0 0 0 = true := by decide +kernel
theorem rt4 : f45_1 4 0 12 0 0 0 0 = true := by decide +kernel
theorem rt5 : f45_1 5 0 12 0 0 0 0 = true := by decide +kernel
theorem rt8 : f45_1 8 0 7 0 0 0 0 = true := by decide +kernel
theorem rt9 : f45_1 9 0 5 3 0 0 0 = true := by decide +kernel

/-- What 'known' says of a made one that is right. -/
theorem kn_right {k b c r : Int} (h0 : f191_0 k b = k) (h1 : f191_1 k b = 0) (h2 : f191_2 k b = c) (h3 : f191_3 k b = r) (h4 : f191_4 k b = true) (hr : f45_1 k 0 c r 0 0 0 = true) (hs : f172_1 k c = true) :
    f161_4 k b = 0 ∧ f162_0 (f161_0 k b) (f161_1 k b) (f161_2 k b) (f161_3 k b) (f161_1 k b) (f161_1 k b) (f161_1 k b) = f172_0 k c := by
  constructor
  · simp [f161_4, h0, h1, h2, h3, h4, hr, cnd_eq]
  · simp [f162_0, f161_0, f161_1, f161_2, f161_3, h0, h1, h2, h3, h4, hr, hs, cnd_eq]
theorem kn_wrong {k b c r : Int} (h0 : f191_0 k b = k) (h1 : f191_1 k b = 0) (h2 : f191_2 k b = c) (h3 : f191_3 k b = r) (h4 : f191_4 k b = true) (hs : f172_1 k c = false) : f161_4 k b = 11 := by
  simp [f161_4, h0, h1, h2, h3, h4, right_size hs, cnd_eq]
theorem kn_none {k b : Int} (h4 : f191_4 k b = false) : f161_4 k b = 20 := by
  simp [f161_4, h4, cnd_eq]
def Kn (k b : Int) : Prop := (f25_0 k b = -1 ∧ f161_4 k b = 20) ∨ (f25_0 k b = -2 ∧ f161_4 k b = 11) ∨
  (0 < f25_0 k b ∧ f161_4 k b = 0 ∧ f162_0 (f161_0 k b) (f161_1 k b) (f161_2 k b) (f161_3 k b) (f161_1 k b) (f161_1 k b) (f161_1 k b) = f25_0 k b)
theorem kn (k b : Int) : Kn k b := by
  by_cases k1 : k = 1
  · subst k1
    by_cases hb : 5 ≤ b ∧ b ≤ 32
    · obtain ⟨n, rfl⟩ : ∃ n : Nat, b = n := ⟨b.toNat, by omega⟩
      have h25 : f25_0 1 (n : Int) = n := by simp [f25_0, cnd_eq]; omega
      obtain ⟨q1, q2⟩ := kn_right (k := 1) (b := n) (c := n) (r := 0) rfl rfl rfl rfl rfl (rt1 n (by omega) (by omega)) (by simp [f172_1, cnd_eq]; omega)
      exact .inr (.inr ⟨by omega, q1, by rw [q2, h25]; rfl⟩)
    · exact .inr (.inl ⟨by simp [f25_0, cnd_eq]; omega, kn_wrong (k := 1) (c := b) (r := 0) rfl rfl rfl rfl rfl (by simp [f172_1, cnd_eq]; omega)⟩)
  by_cases k2 : k = 2
  · subst k2
    by_cases hb : 1 ≤ b ∧ b ≤ 12
    · obtain ⟨n, rfl⟩ : ∃ n : Nat, b = n := ⟨b.toNat, by omega⟩
      have hw : IntKind.i64.wrap ((n : Int) + 5) = n + 5 := wrap_i64 (by omega) (by omega)
      have h25 : f25_0 2 (n : Int) = n + 5 := by simp [f25_0, cnd_eq, hw]; omega
      obtain ⟨q1, q2⟩ := kn_right (k := 2) (b := n) (c := n) (r := 0) rfl rfl rfl rfl rfl (rt2 n (by omega) (by omega)) (by simp [f172_1, cnd_eq]; omega)
      exact .inr (.inr ⟨by omega, q1, by rw [q2, h25]; simp [f172_0, cnd_eq, hw]⟩)
    · exact .inr (.inl ⟨by simp [f25_0, cnd_eq]; omega, kn_wrong (k := 2) (c := b) (r := 0) rfl rfl rfl rfl rfl (by simp [f172_1, cnd_eq]; omega)⟩)
  by_cases k3 : k = 3
  · subst k3
    by_cases hb : b = 12 ∨ b = 21 ∨ b = 30
    · rcases hb with rfl | rfl | rfl
      · obtain ⟨q1, q2⟩ := kn_right (k := 3) (b := 12) (c := 12) (r := 7) rfl rfl rfl rfl rfl rt3a (by decide +kernel)
        exact .inr (.inr ⟨by decide +kernel, q1, q2.trans (by decide +kernel)⟩)
      · obtain ⟨q1, q2⟩ := kn_right (k := 3) (b := 21) (c := 21) (r := 7) rfl rfl rfl rfl rfl rt3b (by decide +kernel)
        exact .inr (.inr ⟨by decide +kernel, q1, q2.trans (by decide +kernel)⟩)
      · obtain ⟨q1, q2⟩ := kn_right (k := 3) (b := 30) (c := 30) (r := 7) rfl rfl rfl rfl rfl rt3c (by decide +kernel)
        exact .inr (.inr ⟨by decide +kernel, q1, q2.trans (by decide +kernel)⟩)
    · refine .inr (.inl ⟨?_, kn_wrong (k := 3) (c := b) (r := 7) rfl rfl rfl rfl rfl ?_⟩)
      · simp [f25_0, cnd_eq]; omega
      · simp only [f172_1, f173_0, f173_1, cnd_eq]; grind
  by_cases k4 : k = 4
  · subst k4
    by_cases hb : b = 0
    · subst hb
      obtain ⟨q1, q2⟩ := kn_right (k := 4) (b := 0) (c := 12) (r := 0) rfl rfl rfl rfl rfl rt4 (by decide +kernel)
      exact .inr (.inr ⟨by decide +kernel, q1, q2.trans (by decide +kernel)⟩)
    · exact .inr (.inl ⟨by simp [f25_0, cnd_eq, hb], kn_wrong (k := 4) (c := -1) (r := 0) (by simp [f191_0, cnd_eq]) (by simp [f191_1, cnd_eq]) (by simp [f191_2, cnd_eq, hb]) (by simp [f191_3, cnd_eq]) rfl (by decide +kernel)⟩)
  by_cases k5 : k = 5
  · subst k5
    by_cases hb : b = 0
    · subst hb
      obtain ⟨q1, q2⟩ := kn_right (k := 5) (b := 0) (c := 12) (r := 0) rfl rfl rfl rfl rfl rt5 (by decide +kernel)
      exact .inr (.inr ⟨by decide +kernel, q1, q2.trans (by decide +kernel)⟩)
    · exact .inr (.inl ⟨by simp [f25_0, cnd_eq, hb], kn_wrong (k := 5) (c := -1) (r := 0) (by simp [f191_0, cnd_eq]) (by simp [f191_1, cnd_eq]) (by simp [f191_2, cnd_eq, hb]) (by simp [f191_3, cnd_eq]) rfl (by decide +kernel)⟩)
  by_cases k8 : k = 8
  · subst k8
    by_cases hb : b = 0
    · subst hb
      obtain ⟨q1, q2⟩ := kn_right (k := 8) (b := 0) (c := 7) (r := 0) rfl rfl rfl rfl rfl rt8 (by decide +kernel)
      exact .inr (.inr ⟨by decide +kernel, q1, q2.trans (by decide +kernel)⟩)
    · exact .inr (.inl ⟨by simp [f25_0, cnd_eq, hb], kn_wrong (k := 8) (c := -1) (r := 0) (by simp [f191_0, cnd_eq]) (by simp [f191_1, cnd_eq]) (by simp [f191_2, cnd_eq, hb]) (by simp [f191_3, cnd_eq]) rfl (by decide +kernel)⟩)
  by_cases k9 : k = 9
  · subst k9
    by_cases hb : b = 0
    · subst hb
      obtain ⟨q1, q2⟩ := kn_right (k := 9) (b := 0) (c := 5) (r := 3) rfl rfl rfl rfl rfl rt9 (by decide +kernel)
      exact .inr (.inr ⟨by decide +kernel, q1, q2.trans (by decide +kernel)⟩)
    · exact .inr (.inl ⟨by simp [f25_0, cnd_eq, hb], kn_wrong (k := 9) (c := -1) (r := 3) (by simp [f191_0, cnd_eq]) (by simp [f191_1, cnd_eq]) (by simp [f191_2, cnd_eq, hb]) (by simp [f191_3, cnd_eq]) rfl (by decide +kernel)⟩)
  refine .inl ⟨?_, kn_none ?_⟩
  · simp [f25_0, cnd_eq, k1, k2, k3, k4, k5, k8, k9]
  · simp [f191_4, cnd_eq, k1, k2, k3, k4, k5, k8, k9]

end Go.Sx.M

namespace Go.Sx.M
open Go Go.Sx

theorem marked_at (k a c r g s m : Int) : f121_1 k a c r g s m = f121_1 k 0 c r g s m := rfl
/-- What lies within 2^32 bytes, and ends there. -/
theorem lies_at {k a c r g s m : Int} (hs : f172_1 k c = true) (hn0 : 0 ≤ f172_0 k c) (hn1 : f172_0 k c ≤ 32) (ha : 0 ≤ a) (ha2 : a < 18446744073709551616) :
    f120_0 k a c r g s m = (a % p26 (f172_0 k c).toNat == 0 && decide (a < 4294967296)) := by
  have hp := p26_eq (n := (f172_0 k c).toNat) (by omega)
  have hle := p26_le (n := (f172_0 k c).toNat) (m := 32) (by omega) (by omega)
  have h32 : p26 32 = 4294967296 := by decide +kernel
  have hpos := p26_pos (n := (f172_0 k c).toNat) (by omega)
  have h1 : (!f172_1 k c) = false := by rw [hs]; rfl
  have h2 : decide (f172_0 k c < 0) = false := by simp; omega
  have hdvd : p26 (f172_0 k c).toNat ∣ 4294967296 := by
    rw [hp]
    have : (4294967296 : Int) = ((2 ^ 32 : Nat) : Int) := by decide
    rw [this, Int.natCast_dvd_natCast]
    exact Nat.pow_dvd_pow 2 (by omega)
  simp only [f120_0, h1, h2, cnd_eq, aligned_eq ha ha2 hn0 (by omega), ones_eq hn0 (by omega)]
  generalize p26 (f172_0 k c).toNat = q at *
  by_cases hal : a % q = 0
  · by_cases hlt : a < 4294967296
    · have hd : q ∣ 4294967296 - a := Int.dvd_sub hdvd (Int.dvd_of_emod_eq_zero hal)
      have hle2 : q ≤ 4294967296 - a := Int.le_of_dvd (by omega) hd
      rw [wrap_u64_id (x := q - 1 + 1) (by omega) (by omega), wrap_u64_id (x := 4294967296 - a) (by omega) (by omega)]
      simp [hal, hlt]
      omega
    · simp [hal, hlt]
  · simp [hal]
theorem right_at {k a c r : Int} (hs : f172_1 k c = true) (hn0 : 0 ≤ f172_0 k c) (hn1 : f172_0 k c ≤ 32) (hr : f45_1 k 0 c r 0 0 0 = true) (ha : 0 ≤ a) (ha2 : a < 18446744073709551616) :
    f45_1 k a c r 0 0 0 = (a % p26 (f172_0 k c).toNat == 0 && decide (a < 4294967296)) := by
  rw [← lies_at (r := r) (g := 0) (s := 0) (m := 0) hs hn0 hn1 ha ha2]
  simp only [f45_1, cnd_eq, marked_at k a] at hr ⊢
  generalize f120_0 k a c r 0 0 0 = x at *
  generalize f121_1 k 0 c r 0 0 0 = y at *
  cases x
  · simp
  · grind

/-- Kinds that may be made: the bits and the rights that they get. -/
def Mk (k b c r n : Int) : Prop := f191_0 k b = k ∧ f191_1 k b = 0 ∧ f191_2 k b = c ∧ f191_3 k b = r ∧ f191_4 k b = true ∧ f45_1 k 0 c r 0 0 0 = true ∧ f172_1 k c = true ∧ f172_0 k c = n ∧ 5 ≤ n ∧ n ≤ 32 ∧
  f25_0 k b = n ∧ c = (if k = 2 then b else n) ∧ r = (if k = 9 then 3 else if k = 3 then 7 else 0)
theorem mk (k b : Int) : (f25_0 k b = -1 ∧ f161_4 k b = 20) ∨ (f25_0 k b = -2 ∧ f161_4 k b = 11) ∨ ∃ c r n, Mk k b c r n := by
  by_cases k1 : k = 1
  · subst k1
    by_cases hb : 5 ≤ b ∧ b ≤ 32
    · obtain ⟨n, rfl⟩ : ∃ n : Nat, b = n := ⟨b.toNat, by omega⟩
      have h25 : f25_0 1 (n : Int) = n := by simp [f25_0, cnd_eq]; omega
      exact .inr (.inr ⟨n, 0, n, rfl, rfl, rfl, rfl, rfl, rt1 n (by omega) (by omega), by simp [f172_1, cnd_eq]; omega, rfl, by omega, by omega, h25, rfl, rfl⟩)
    · rcases kn 1 b with h | h | ⟨h, _⟩
      · exact .inl h
      · exact .inr (.inl h)
      · exfalso; revert h; simp [f25_0, cnd_eq]; omega
  by_cases k2 : k = 2
  · subst k2
    by_cases hb : 1 ≤ b ∧ b ≤ 12
    · obtain ⟨n, rfl⟩ : ∃ n : Nat, b = n := ⟨b.toNat, by omega⟩
      have hw : IntKind.i64.wrap ((n : Int) + 5) = n + 5 := wrap_i64 (by omega) (by omega)
      have h25 : f25_0 2 (n : Int) = n + 5 := by simp [f25_0, cnd_eq, hw]; omega
      exact .inr (.inr ⟨n, 0, n + 5, rfl, rfl, rfl, rfl, rfl, rt2 n (by omega) (by omega), by simp [f172_1, cnd_eq]; omega, by simp [f172_0, cnd_eq, hw], by omega, by omega, h25, rfl, rfl⟩)
    · rcases kn 2 b with h | h | ⟨h, _⟩
      · exact .inl h
      · exact .inr (.inl h)
      · exfalso; revert h; simp [f25_0, cnd_eq]; omega
  by_cases k3 : k = 3
  · subst k3
    by_cases hb : b = 12 ∨ b = 21 ∨ b = 30
    · rcases hb with rfl | rfl | rfl
      · exact .inr (.inr ⟨12, 7, 12, rfl, rfl, rfl, rfl, rfl, rt3a, by decide +kernel, by decide +kernel, by omega, by omega, by decide +kernel, rfl, rfl⟩)
      · exact .inr (.inr ⟨21, 7, 21, rfl, rfl, rfl, rfl, rfl, rt3b, by decide +kernel, by decide +kernel, by omega, by omega, by decide +kernel, rfl, rfl⟩)
      · exact .inr (.inr ⟨30, 7, 30, rfl, rfl, rfl, rfl, rfl, rt3c, by decide +kernel, by decide +kernel, by omega, by omega, by decide +kernel, rfl, rfl⟩)
    · rcases kn 3 b with h | h | ⟨h, _⟩
      · exact .inl h
      · exact .inr (.inl h)
      · exfalso; revert h; simp [f25_0, cnd_eq]; omega
  have small : ∀ c r n, k ≠ 2 → k = 4 ∨ k = 5 ∨ k = 8 ∨ k = 9 → Mk k 0 c r n → (f25_0 k b = -1 ∧ f161_4 k b = 20) ∨ (f25_0 k b = -2 ∧ f161_4 k b = 11) ∨ ∃ c r n, Mk k b c r n := by
    intro c r n h2 hk hm
    by_cases hb : b = 0
    · subst hb; exact .inr (.inr ⟨c, r, n, hm⟩)
    · rcases kn k b with h | h | ⟨h, _⟩
      · exact .inl h
      · exact .inr (.inl h)
      · exfalso
        revert h
        rcases hk with rfl | rfl | rfl | rfl <;> simp [f25_0, cnd_eq, hb]
  by_cases k4 : k = 4
  · subst k4; exact small 12 0 12 (by omega) (by omega) ⟨rfl, rfl, rfl, rfl, rfl, rt4, by decide +kernel, by decide +kernel, by omega, by omega, by decide +kernel, rfl, rfl⟩
  by_cases k5 : k = 5
  · subst k5; exact small 12 0 12 (by omega) (by omega) ⟨rfl, rfl, rfl, rfl, rfl, rt5, by decide +kernel, by decide +kernel, by omega, by omega, by decide +kernel, rfl, rfl⟩
  by_cases k8 : k = 8
  · subst k8; exact small 7 0 7 (by omega) (by omega) ⟨rfl, rfl, rfl, rfl, rfl, rt8, by decide +kernel, by decide +kernel, by omega, by omega, by decide +kernel, rfl, rfl⟩
  by_cases k9 : k = 9
  · subst k9; exact small 5 3 5 (by omega) (by omega) ⟨rfl, rfl, rfl, rfl, rfl, rt9, by decide +kernel, by decide +kernel, by omega, by omega, by decide +kernel, rfl, rfl⟩
  refine .inl ⟨?_, kn_none ?_⟩
  · simp [f25_0, cnd_eq, k1, k2, k3, k4, k5, k8, k9]
  · simp [f191_4, cnd_eq, k1, k2, k3, k4, k5, k8, k9]

end Go.Sx.M

