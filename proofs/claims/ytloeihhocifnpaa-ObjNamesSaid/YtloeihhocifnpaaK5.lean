/- Contracts of more functions of this seat, each by the executor and the kernel. Their conditions stand in each. -/
import Derived.Test.YtloeihhocifnpaaK4
set_option linter.unusedVariables false
set_option linter.unusedSimpArgs false
namespace Go.Sx.A
open Go Go.Sx Go.Proofs Go.RowKit
def us42 : List Un := []
def f42_0 (n : ByteArray) (b : Int) : Int := Go.Sx.cnd (!Go.Sx.A.f22_24 n) (0 : Int) (Go.Sx.cnd (Go.Sx.A.f37_5 (Go.Sx.A.f22_23 n) b (0 : Int) != (0 : Int)) (0 : Int) (Go.Sx.A.f22_23 n))
def f42_1 (n : ByteArray) (b : Int) : Int := Go.Sx.cnd (!Go.Sx.A.f22_24 n) (60 : Int) (Go.Sx.cnd (Go.Sx.A.f37_5 (Go.Sx.A.f22_23 n) b (0 : Int) != (0 : Int)) (Go.Sx.A.f37_5 (Go.Sx.A.f22_23 n) b (0 : Int)) (0 : Int))
def f42 : List SV → Option (Tr SV)
  | [.str n, .int .i64 b] => some (Go.Sx.Tr.leaf (Go.Sx.SV.tup (List.cons (Go.Sx.SV.int (Go.IntKind.i64) (f42_0 n b)) (List.cons (Go.Sx.SV.int (Go.IntKind.i64) (f42_1 n b)) (List.nil)))))
  | _ => none
theorem s42 : Sound Try.prog th 42 (pureC f42) := pure_auto (us := us42) (nice := nice11) nok11 20 fun args t h => by
  unfold f42 at h
  split at h
  · cases h; kernel_rfl
  · cases h
noncomputable def nice42 : List (Nat × CF th.R) := (42, pureC f42) :: nice11
theorem nok42 : NiceOk Try.prog th nice42 := ⟨s42, nok11⟩
end Go.Sx.A

namespace Go.Sx.A
open Go Go.Sx Go.Proofs Go.RowKit
def us12 : List Un := [⟨12, [(5, 12)], [19]⟩]
def f12_0 (n : ByteArray) (b : Int) : Bool := Go.Sx.cnd ((Go.Sx.A.f21_3 (0 : Int)).toList == n.toList) (Go.Sx.cnd (Go.Sx.cnd (Go.Sx.A.f42_1 n b == Go.Sx.A.f38_7 (0 : Int) b (0 : Int)) ((Go.Sx.A.f42_1 n b == (0 : Int)) == Go.Sx.cnd (Go.Sx.A.f42_0 n b == (0 : Int)) Bool.false Bool.false) Bool.false) (Go.Sx.cnd (Go.Sx.A.f42_1 n b == (0 : Int)) Bool.true (Go.Sx.A.f42_0 n b == (0 : Int))) Bool.false) (Go.Sx.cnd ((Go.Sx.A.f21_3 (1 : Int)).toList == n.toList) (Go.Sx.cnd (Go.Sx.cnd (Go.Sx.A.f42_1 n b == Go.Sx.A.f38_7 (1 : Int) b (0 : Int)) ((Go.Sx.A.f42_1 n b == (0 : Int)) == Go.Sx.cnd (Go.Sx.A.f42_0 n b == (1 : Int)) Bool.true Bool.false) Bool.false) (Go.Sx.cnd (Go.Sx.A.f42_1 n b == (0 : Int)) Bool.true (Go.Sx.A.f42_0 n b == (0 : Int))) Bool.false) (Go.Sx.cnd ((Go.Sx.A.f21_3 (2 : Int)).toList == n.toList) (Go.Sx.cnd (Go.Sx.cnd (Go.Sx.A.f42_1 n b == Go.Sx.A.f38_7 (2 : Int) b (0 : Int)) ((Go.Sx.A.f42_1 n b == (0 : Int)) == Go.Sx.cnd (Go.Sx.A.f42_0 n b == (2 : Int)) Bool.true Bool.false) Bool.false) (Go.Sx.cnd (Go.Sx.A.f42_1 n b == (0 : Int)) Bool.true (Go.Sx.A.f42_0 n b == (0 : Int))) Bool.false) (Go.Sx.cnd ((Go.Sx.A.f21_3 (3 : Int)).toList == n.toList) (Go.Sx.cnd (Go.Sx.cnd (Go.Sx.A.f42_1 n b == Go.Sx.A.f38_7 (3 : Int) b (0 : Int)) ((Go.Sx.A.f42_1 n b == (0 : Int)) == Go.Sx.cnd (Go.Sx.A.f42_0 n b == (3 : Int)) Bool.true Bool.false) Bool.false) (Go.Sx.cnd (Go.Sx.A.f42_1 n b == (0 : Int)) Bool.true (Go.Sx.A.f42_0 n b == (0 : Int))) Bool.false) (Go.Sx.cnd ((Go.Sx.A.f21_3 (4 : Int)).toList == n.toList) (Go.Sx.cnd (Go.Sx.cnd (Go.Sx.A.f42_1 n b == Go.Sx.A.f38_7 (4 : Int) b (0 : Int)) ((Go.Sx.A.f42_1 n b == (0 : Int)) == Go.Sx.cnd (Go.Sx.A.f42_0 n b == (4 : Int)) Bool.true Bool.false) Bool.false) (Go.Sx.cnd (Go.Sx.A.f42_1 n b == (0 : Int)) Bool.true (Go.Sx.A.f42_0 n b == (0 : Int))) Bool.false) (Go.Sx.cnd ((Go.Sx.A.f21_3 (5 : Int)).toList == n.toList) (Go.Sx.cnd (Go.Sx.cnd (Go.Sx.A.f42_1 n b == Go.Sx.A.f38_7 (5 : Int) b (0 : Int)) ((Go.Sx.A.f42_1 n b == (0 : Int)) == Go.Sx.cnd (Go.Sx.A.f42_0 n b == (5 : Int)) Bool.true Bool.false) Bool.false) (Go.Sx.cnd (Go.Sx.A.f42_1 n b == (0 : Int)) Bool.true (Go.Sx.A.f42_0 n b == (0 : Int))) Bool.false) (Go.Sx.cnd ((Go.Sx.A.f21_3 (6 : Int)).toList == n.toList) (Go.Sx.cnd (Go.Sx.cnd (Go.Sx.A.f42_1 n b == Go.Sx.A.f38_7 (6 : Int) b (0 : Int)) ((Go.Sx.A.f42_1 n b == (0 : Int)) == Go.Sx.cnd (Go.Sx.A.f42_0 n b == (6 : Int)) Bool.true Bool.false) Bool.false) (Go.Sx.cnd (Go.Sx.A.f42_1 n b == (0 : Int)) Bool.true (Go.Sx.A.f42_0 n b == (0 : Int))) Bool.false) (Go.Sx.cnd ((Go.Sx.A.f21_3 (7 : Int)).toList == n.toList) (Go.Sx.cnd (Go.Sx.cnd (Go.Sx.A.f42_1 n b == Go.Sx.A.f38_7 (7 : Int) b (0 : Int)) ((Go.Sx.A.f42_1 n b == (0 : Int)) == Go.Sx.cnd (Go.Sx.A.f42_0 n b == (7 : Int)) Bool.true Bool.false) Bool.false) (Go.Sx.cnd (Go.Sx.A.f42_1 n b == (0 : Int)) Bool.true (Go.Sx.A.f42_0 n b == (0 : Int))) Bool.false) (Go.Sx.cnd ((Go.Sx.A.f21_3 (8 : Int)).toList == n.toList) (Go.Sx.cnd (Go.Sx.cnd (Go.Sx.A.f42_1 n b == Go.Sx.A.f38_7 (8 : Int) b (0 : Int)) ((Go.Sx.A.f42_1 n b == (0 : Int)) == Go.Sx.cnd (Go.Sx.A.f42_0 n b == (8 : Int)) Bool.true Bool.false) Bool.false) (Go.Sx.cnd (Go.Sx.A.f42_1 n b == (0 : Int)) Bool.true (Go.Sx.A.f42_0 n b == (0 : Int))) Bool.false) (Go.Sx.cnd ((Go.Sx.A.f21_3 (9 : Int)).toList == n.toList) (Go.Sx.cnd (Go.Sx.cnd (Go.Sx.A.f42_1 n b == Go.Sx.A.f38_7 (9 : Int) b (0 : Int)) ((Go.Sx.A.f42_1 n b == (0 : Int)) == Go.Sx.cnd (Go.Sx.A.f42_0 n b == (9 : Int)) Bool.true Bool.false) Bool.false) (Go.Sx.cnd (Go.Sx.A.f42_1 n b == (0 : Int)) Bool.true (Go.Sx.A.f42_0 n b == (0 : Int))) Bool.false) (Go.Sx.cnd ((Go.Sx.A.f21_3 (10 : Int)).toList == n.toList) (Go.Sx.cnd (Go.Sx.cnd (Go.Sx.A.f42_1 n b == Go.Sx.A.f38_7 (10 : Int) b (0 : Int)) ((Go.Sx.A.f42_1 n b == (0 : Int)) == Go.Sx.cnd (Go.Sx.A.f42_0 n b == (10 : Int)) Bool.true Bool.false) Bool.false) (Go.Sx.cnd (Go.Sx.A.f42_1 n b == (0 : Int)) Bool.true (Go.Sx.A.f42_0 n b == (0 : Int))) Bool.false) (Go.Sx.cnd (Go.Sx.A.f42_1 n b == (60 : Int)) (Go.Sx.A.f42_0 n b == (0 : Int)) Bool.false)))))))))))
def f12 : List SV → Option (Tr SV)
  | [.str n, .int .i64 b] => some (Go.Sx.Tr.need (Go.Sx.A.f23_0) (Go.Sx.Tr.leaf (Go.Sx.SV.bool (f12_0 n b))))
  | _ => none
theorem s12 : Sound Try.prog th 12 (pureC f12) := pure_auto (us := us12) (nice := nice42) nok42 20 fun args t h => by
  unfold f12 at h
  split at h
  · cases h; kernel_rfl
  · cases h
noncomputable def nice12 : List (Nat × CF th.R) := (12, pureC f12) :: nice42
theorem nok12 : NiceOk Try.prog th nice12 := ⟨s12, nok42⟩
end Go.Sx.A

