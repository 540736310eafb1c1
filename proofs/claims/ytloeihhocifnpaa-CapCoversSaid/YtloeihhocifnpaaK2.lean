/- Contracts of more functions of this seat, each by the executor and the kernel. Their conditions stand in each. -/
import Derived.Test.YtloeihhocifnpaaK1
set_option linter.unusedVariables false
set_option linter.unusedSimpArgs false
namespace Go.Sx.A
open Go Go.Sx Go.Proofs Go.RowKit
def us28 : List Un := [⟨59, [(2, 6)], [6]⟩, ⟨15, [(5, 7)], [15]⟩]
def f28_0 (k : Int) (a : Int) (b : Int) (r : Int) (g : Int) (s : Int) (m : Int) (k2 : Int) (a2 : Int) (b2 : Int) (r2 : Int) (g2 : Int) (s2 : Int) (m2 : Int) : Bool := Go.Sx.cnd (Go.Sx.cnd (Go.Sx.cnd (Decidable.decide (Go.Sx.A.f31_0 k a b r g s m ≥ (0 : Int))) (Decidable.decide (Go.Sx.A.f31_0 k2 a2 b2 r2 g2 s2 m2 ≥ (0 : Int))) Bool.false) (Decidable.decide (a ≤ a2)) Bool.false) (Decidable.decide (Go.Sx.A.f32_0 k2 a2 b2 r2 g2 s2 m2 ≤ Go.Sx.A.f32_0 k a b r g s m)) Bool.false
def f28 : List SV → Option (Tr SV)
  | [.agg [.int .i64 k, .int .u64 a, .int .i64 b, .int .i64 r, .int .i64 g, .int .i64 s, .int .u64 m], .agg [.int .i64 k2, .int .u64 a2, .int .i64 b2, .int .i64 r2, .int .i64 g2, .int .i64 s2, .int .u64 m2]] => some (Go.Sx.Tr.leaf (Go.Sx.SV.bool (f28_0 k a b r g s m k2 a2 b2 r2 g2 s2 m2)))
  | _ => none
theorem s28 : Sound Try.prog th 28 (pureC f28) := pure_auto (us := us28) (nice := nice8) nok8 20 fun args t h => by
  unfold f28 at h
  split at h
  · cases h; kernel_rfl
  · cases h
def nice28 : List (Nat × CF th.R) := (28, pureC f28) :: nice8
theorem nok28 : NiceOk Try.prog th nice28 := ⟨s28, nok8⟩
end Go.Sx.A

namespace Go.Sx.A
open Go Go.Sx Go.Proofs Go.RowKit
def us29 : List Un := [⟨59, [(2, 6)], [6]⟩, ⟨15, [(5, 7)], [15]⟩]
def f29_0 (k : Int) (a : Int) (b : Int) (r : Int) (g : Int) (s : Int) (m : Int) (k2 : Int) (a2 : Int) (b2 : Int) (r2 : Int) (g2 : Int) (s2 : Int) (m2 : Int) : Bool := Go.Sx.cnd (Go.Sx.cnd (Go.Sx.cnd (Go.Sx.cnd (Go.Sx.cnd (Go.Sx.A.f17_1 k a b r g s m) (Go.Sx.A.f17_1 k2 a2 b2 r2 g2 s2 m2) Bool.false) (k == k2) Bool.false) (a == a2) Bool.false) (Go.Sx.A.f31_0 k a b r g s m == Go.Sx.A.f31_0 k2 a2 b2 r2 g2 s2 m2) Bool.false) (Decidable.decide (Go.Sx.A.f31_0 k a b r g s m ≥ (0 : Int))) Bool.false
def f29 : List SV → Option (Tr SV)
  | [.agg [.int .i64 k, .int .u64 a, .int .i64 b, .int .i64 r, .int .i64 g, .int .i64 s, .int .u64 m], .agg [.int .i64 k2, .int .u64 a2, .int .i64 b2, .int .i64 r2, .int .i64 g2, .int .i64 s2, .int .u64 m2]] => some (Go.Sx.Tr.leaf (Go.Sx.SV.bool (f29_0 k a b r g s m k2 a2 b2 r2 g2 s2 m2)))
  | _ => none
theorem s29 : Sound Try.prog th 29 (pureC f29) := pure_auto (us := us29) (nice := nice28) nok28 20 fun args t h => by
  unfold f29 at h
  split at h
  · cases h; kernel_rfl
  · cases h
def nice29 : List (Nat × CF th.R) := (29, pureC f29) :: nice28
theorem nok29 : NiceOk Try.prog th nice29 := ⟨s29, nok28⟩
end Go.Sx.A

namespace Go.Sx.A
open Go Go.Sx Go.Proofs Go.RowKit
def us7 : List Un := [⟨59, [(2, 6)], [6]⟩, ⟨15, [(5, 7)], [15]⟩]
def f7_0 (k : Int) (a : Int) (b : Int) (r : Int) (g : Int) (s : Int) (m : Int) (k2 : Int) (a2 : Int) (b2 : Int) (r2 : Int) (g2 : Int) (s2 : Int) (m2 : Int) : Bool := Go.Sx.cnd (Go.Sx.cnd (Go.Sx.cnd (!Go.Sx.A.f28_0 k a b r g s m k2 a2 b2 r2 g2 s2 m2 == Go.Sx.cnd (Go.Sx.cnd (Go.Sx.cnd (Go.Sx.cnd (Go.Sx.A.f27_2 k a b r g s m) (Go.Sx.A.f27_2 k2 a2 b2 r2 g2 s2 m2) Bool.false) (Decidable.decide (a2 ≥ a)) Bool.false) (Decidable.decide (Go.IntKind.u64.wrap (a2 - a) ≤ Go.Sx.A.f27_1 k a b r g s m)) Bool.false) (Decidable.decide (Go.Sx.A.f27_1 k2 a2 b2 r2 g2 s2 m2 ≤ Go.IntKind.u64.wrap (Go.Sx.A.f27_1 k a b r g s m - Go.IntKind.u64.wrap (a2 - a)))) Bool.false) Bool.true !Go.Sx.A.f28_0 k a b r g s m k a b r g s m == Go.Sx.A.f27_2 k a b r g s m) Bool.true !Go.Sx.A.f29_0 k a b r g s m k a b r g s m == Go.Sx.A.f27_2 k a b r g s m) Bool.false (Go.Sx.A.f29_0 k a b r g s m k2 a2 b2 r2 g2 s2 m2 == Go.Sx.cnd (Go.Sx.cnd (Go.Sx.cnd (Go.Sx.cnd (Go.Sx.cnd (Go.Sx.cnd (Go.Sx.A.f27_2 k a b r g s m) (Go.Sx.A.f27_2 k2 a2 b2 r2 g2 s2 m2) Bool.false) (Decidable.decide (a2 ≥ a)) Bool.false) (Decidable.decide (Go.IntKind.u64.wrap (a2 - a) ≤ Go.Sx.A.f27_1 k a b r g s m)) Bool.false) (Decidable.decide (Go.Sx.A.f27_1 k2 a2 b2 r2 g2 s2 m2 ≤ Go.IntKind.u64.wrap (Go.Sx.A.f27_1 k a b r g s m - Go.IntKind.u64.wrap (a2 - a)))) Bool.false) (Go.Sx.A.f28_0 k2 a2 b2 r2 g2 s2 m2 k a b r g s m) Bool.false) (k == k2) Bool.false)
def f7 : List SV → Option (Tr SV)
  | [.agg [.int .i64 k, .int .u64 a, .int .i64 b, .int .i64 r, .int .i64 g, .int .i64 s, .int .u64 m], .agg [.int .i64 k2, .int .u64 a2, .int .i64 b2, .int .i64 r2, .int .i64 g2, .int .i64 s2, .int .u64 m2]] => some (Go.Sx.Tr.leaf (Go.Sx.SV.bool (f7_0 k a b r g s m k2 a2 b2 r2 g2 s2 m2)))
  | _ => none
theorem s7 : Sound Try.prog th 7 (pureC f7) := pure_auto (us := us7) (nice := nice29) nok29 20 fun args t h => by
  unfold f7 at h
  split at h
  · cases h; kernel_rfl
  · cases h
def nice7 : List (Nat × CF th.R) := (7, pureC f7) :: nice29
theorem nok7 : NiceOk Try.prog th nice7 := ⟨s7, nok29⟩
end Go.Sx.A

